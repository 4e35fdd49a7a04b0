/- The document's own answer whether operations are the same is op.Same's. -/
import Derived.Test.YtbljbgjecnmeeaaDoorOpRight0
import Derived.Test.YtbljbgjecnmeeaaDoorPOpTellsx6
namespace Go.Proofs.YtbljbgjecnmeeaaDoor.OpP
open Go.RowKit Go.Proofs.YtbljbgjecnmeeaaDoor.POpTells Go.Proofs.YtbljbgjecnmeeaaDoorW.PrintWords Go.Proofs.YtbljbgjecnmeeaaDoorW.PrintLast
set_option linter.unusedVariables false
set_option linter.unusedSimpArgs false
theorem refAttr_loop (a b : List S32) (hl : a.length = b.length) (hn : a.length ≤ 9223372036854775807) : ∀ (d i k : Nat), a.length - i = d → i ≤ a.length → d < k → arbourref7_Same.l0 k a b (i : Int) = some (attrEq (a.drop i) (b.drop i))
  | 0, i, k, hd, hi, hk => by
    obtain ⟨k, rfl⟩ : ∃ m, k = m + 1 := ⟨k - 1, by omega⟩
    rw [arbourref7_Same.l0, if_neg (by omega), List.drop_of_length_le (by omega), List.drop_of_length_le (by omega)]
    rfl
  | d + 1, i, k, hd, hi, hk => by
    obtain ⟨k, rfl⟩ : ∃ m, k = m + 1 := ⟨k - 1, by omega⟩
    have ew : wrap64 ((i : Int) + 1) = ((i + 1 : Nat) : Int) := by unfold wrap64; omega
    rw [arbourref7_Same.l0, if_pos (by omega), if_pos (by omega), if_pos (by omega), rd32 a i (by omega), rd32 b i (by omega), ew, refAttr_loop a b hl hn d (i + 1) k (by omega) (by omega) (by omega)]
    have ea : a.drop i = a[i] :: a.drop (i + 1) := List.drop_eq_getElem_cons (by omega)
    have eb : b.drop i = b[i] :: b.drop (i + 1) := List.drop_eq_getElem_cons (by omega)
    rw [ea, eb, attrEq_cons]
    by_cases h0 : a[i].f0.toList = (b[i]'(by omega)).f0.toList
    · by_cases h1 : a[i].f1.toList = (b[i]'(by omega)).f1.toList
      · rw [if_neg (by simp [h0, h1]), show (attrK a[i] == attrK (b[i]'(by omega))) = true from beq_iff_eq.2 (by unfold attrK; rw [h0, h1]), Bool.true_and]
      · rw [if_pos (by simp [h1]), show (attrK a[i] == attrK (b[i]'(by omega))) = false from beq_eq_false_iff_ne.2 (fun e => h1 (congrArg Prod.snd e)), Bool.false_and]
    · rw [if_pos (by simp [h0]), show (attrK a[i] == attrK (b[i]'(by omega))) = false from beq_eq_false_iff_ne.2 (fun e => h0 (congrArg Prod.fst e)), Bool.false_and]
theorem refAttr_some (a b : List S32) (hn : a.length ≤ 9223372036854775807) : arbourkeep_Attrs.f (a.length + 1) a b = some (attrEq a b) := by
  unfold arbourkeep_Attrs.f arbourref7_Same.f
  by_cases hl : a.length = b.length
  · rw [if_pos (by omega)]
    have := refAttr_loop a b hl hn a.length 0 (a.length + 1) (by omega) (by omega) (by omega)
    rw [List.drop_zero, List.drop_zero] at this
    rw [show ((0 : Nat) : Int) = 0 from rfl] at this
    rw [this]
    rfl
  · rw [if_neg (by omega)]
    have hf : attrEq a b = false := by
      unfold attrEq
      rw [beq_eq_false_iff_ne]
      intro h
      exact hl (by simpa using congrArg List.length h)
    rw [hf]
    rfl
theorem keep_some (a b : S24) (hn : a.f7.length ≤ 9223372036854775807) : arbourkeep_Op.f (a.f7.length + 1) a.f0 a.f1 a.f2 a.f3 a.f4 a.f5 a.f6 a.f7 a.f8 b.f0 b.f1 b.f2 b.f3 b.f4 b.f5 b.f6 b.f7 b.f8 = some (sameB a b) := by
  have h := same_some a b hn
  unfold op_Same.f at h
  unfold arbourkeep_Op.f
  rw [refAttr_some _ _ hn]
  rw [attr_some _ _ hn] at h
  exact h
theorem keepOp (a b : S24) (A B : Option Addr) (c d : Nat) (w : World) (hA : k32.C w A a.f7.length a.f7) (hc : a.f7.length ≤ c) (hB : k32.C w B b.f7.length b.f7) (hd : b.f7.length ≤ d) :
    Calls Tryd.prog 17 #[.agg #[.int .i64 a.f0, .int .i64 a.f1, .int .i64 a.f2, .int .i64 a.f3, .int .i64 a.f4, .int .i64 a.f5, .string a.f6, .slice A a.f7.length c, .string a.f8], .agg #[.int .i64 b.f0, .int .i64 b.f1, .int .i64 b.f2, .int .i64 b.f3, .int .i64 b.f4, .int .i64 b.f5, .string b.f6, .slice B b.f7.length d, .string b.f8]] w fun e w' => e = .returned (.bool (sameB a b)) ∧ Below w.heap.size w w' :=
  arbourkeep_Op.calls (a.f7.length + 1) a.f0 a.f1 a.f2 a.f3 a.f4 a.f5 a.f6 A c a.f7 a.f8 b.f0 b.f1 b.f2 b.f3 b.f4 b.f5 b.f6 B d b.f7 b.f8 (sameB a b) w hA hc hB hd (keep_some a b (by have := hA.2.1; unfold maxLen at this; omega))
theorem sameOp (a b : S24) (A B : Option Addr) (c d : Nat) (w : World) (hA : k32.C w A a.f7.length a.f7) (hc : a.f7.length ≤ c) (hB : k32.C w B b.f7.length b.f7) (hd : b.f7.length ≤ d) :
    Calls Tryd.prog 9 #[.agg #[.int .i64 a.f0, .int .i64 a.f1, .int .i64 a.f2, .int .i64 a.f3, .int .i64 a.f4, .int .i64 a.f5, .string a.f6, .slice A a.f7.length c, .string a.f8], .agg #[.int .i64 b.f0, .int .i64 b.f1, .int .i64 b.f2, .int .i64 b.f3, .int .i64 b.f4, .int .i64 b.f5, .string b.f6, .slice B b.f7.length d, .string b.f8]] w fun e w' => e = .returned (.bool (sameB a b)) ∧ Below w.heap.size w w' :=
  op_Same.calls (a.f7.length + 1) a.f0 a.f1 a.f2 a.f3 a.f4 a.f5 a.f6 A c a.f7 a.f8 b.f0 b.f1 b.f2 b.f3 b.f4 b.f5 b.f6 B d b.f7 b.f8 (sameB a b) w hA hc hB hd (same_some a b (by have := hA.2.1; unfold maxLen at this; omega))
end Go.Proofs.YtbljbgjecnmeeaaDoor.OpP
