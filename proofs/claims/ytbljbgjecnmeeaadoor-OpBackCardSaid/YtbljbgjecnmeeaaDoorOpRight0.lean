/- Whether an operation may be: the plain law. -/
import Derived.Test.YtbljbgjecnmeeaaDoorOpPure
import Derived.Test.YtbljbgjecnmeeaaDoorOpsA
import Derived.Deep.DeepCutAuto
import Derived.Outline
namespace Go.Proofs.YtbljbgjecnmeeaaDoor.OpP
open Go.RowKit Go.Proofs.YtbljbgjecnmeeaaDoor.POpTells Go.Proofs.YtbljbgjecnmeeaaDoorW.PrintWords Go.Proofs.YtbljbgjecnmeeaaDoorW.PrintLast
/-- An operation with what its Kind names alone. -/
def askedL (o : S24) : S24 :=
  if o.f0 = 1 then ⟨1, o.f1, 0, 0, o.f4, o.f5, o.f6, o.f7, o.f8⟩
  else if o.f0 = 2 then ⟨2, o.f1, o.f2, 0, 0, 0, ⟨#[]⟩, [], ⟨#[]⟩⟩
  else if o.f0 = 3 ∨ o.f0 = 9 then ⟨o.f0, o.f1, 0, o.f3, 0, 0, ⟨#[]⟩, [], ⟨#[]⟩⟩
  else if o.f0 = 4 then ⟨4, o.f1, o.f2, o.f3, 0, 0, ⟨#[]⟩, [], ⟨#[]⟩⟩
  else if o.f0 = 5 then ⟨5, 0, o.f2, 0, 0, 0, ⟨#[]⟩, [], o.f8⟩
  else if o.f0 = 6 then ⟨6, 0, o.f2, o.f3, 0, 0, ⟨#[]⟩, [], o.f8⟩
  else if o.f0 = 7 then ⟨7, o.f1, 0, 0, 0, 0, ⟨#[]⟩, [], ⟨#[]⟩⟩
  else if o.f0 = 8 then ⟨8, 0, o.f2, o.f3, 0, 0, ⟨#[]⟩, [], ⟨#[]⟩⟩
  else if o.f0 = 10 then ⟨10, o.f1, 0, 0, 0, 0, ⟨#[]⟩, o.f7, ⟨#[]⟩⟩
  else ⟨o.f0, 0, 0, 0, 0, 0, ⟨#[]⟩, [], ⟨#[]⟩⟩
def kindB (k : Int) : Bool := decide (1 ≤ k) && decide (k ≤ 11)
def attrK (x : S32) : List UInt8 × List UInt8 := (x.f0.toList, x.f1.toList)
def attrEq (a b : List S32) : Bool := a.map attrK == b.map attrK
theorem attrEq_cons (x y : S32) (a b : List S32) : attrEq (x :: a) (y :: b) = ((attrK x == attrK y) && attrEq a b) := rfl
theorem rd32 (xs : List S32) (i : Nat) (h : i < xs.length) : rd_T32 xs (i : Int) = xs[i] := by
  unfold rd_T32
  rw [Int.toNat_natCast, List.getD_eq_getElem?_getD, List.getElem?_eq_getElem h]
  rfl
theorem attr_loop (a b : List S32) (hl : a.length = b.length) (hn : a.length ≤ 9223372036854775807) : ∀ (d i k : Nat), a.length - i = d → i ≤ a.length → d < k → api_Attr_26.l0 k a b (a.length : Int) (i : Int) = some (attrEq (a.drop i) (b.drop i))
  | 0, i, k, hd, hi, hk => by
    obtain ⟨k, rfl⟩ : ∃ m, k = m + 1 := ⟨k - 1, by omega⟩
    rw [api_Attr_26.l0, if_neg (by omega), List.drop_of_length_le (by omega), List.drop_of_length_le (by omega)]
    rfl
  | d + 1, i, k, hd, hi, hk => by
    obtain ⟨k, rfl⟩ : ∃ m, k = m + 1 := ⟨k - 1, by omega⟩
    have ew : wrap64 ((i : Int) + 1) = ((i + 1 : Nat) : Int) := by unfold wrap64; omega
    rw [api_Attr_26.l0, if_pos (by omega), if_pos (by omega), if_pos (by omega), if_pos (by omega), rd32 a i (by omega), rd32 b i (by omega), ew, attr_loop a b hl hn d (i + 1) k (by omega) (by omega) (by omega)]
    have ea : a.drop i = a[i] :: a.drop (i + 1) := List.drop_eq_getElem_cons (by omega)
    have eb : b.drop i = b[i] :: b.drop (i + 1) := List.drop_eq_getElem_cons (by omega)
    rw [ea, eb, attrEq_cons]
    by_cases h0 : a[i].f0.toList = (b[i]'(by omega)).f0.toList
    · by_cases h1 : a[i].f1.toList = (b[i]'(by omega)).f1.toList
      · rw [if_neg (by simp [h0, h1]), show (attrK a[i] == attrK (b[i]'(by omega))) = true from beq_iff_eq.2 (by unfold attrK; rw [h0, h1]), Bool.true_and]
      · rw [if_pos (by simp [h1]), show (attrK a[i] == attrK (b[i]'(by omega))) = false from beq_eq_false_iff_ne.2 (fun e => h1 (congrArg Prod.snd e)), Bool.false_and]
    · rw [if_pos (by simp [h0]), show (attrK a[i] == attrK (b[i]'(by omega))) = false from beq_eq_false_iff_ne.2 (fun e => h0 (congrArg Prod.fst e)), Bool.false_and]
theorem attr_some (a b : List S32) (hn : a.length ≤ 9223372036854775807) : api_Attr_26.f (a.length + 1) a b = some (attrEq a b) := by
  unfold api_Attr_26.f
  by_cases hl : a.length = b.length
  · rw [if_pos (by omega)]
    have := attr_loop a b hl hn a.length 0 (a.length + 1) (by omega) (by omega) (by omega)
    rw [List.drop_zero, List.drop_zero] at this
    exact this
  · rw [if_neg (by omega)]
    congr 1
    unfold attrEq
    symm
    rw [beq_eq_false_iff_ne]
    intro h
    exact hl (by simpa using congrArg List.length h)
def sameB (a b : S24) : Bool := (a.f0 == b.f0) && ((a.f1 == b.f1) && ((a.f2 == b.f2) && ((a.f3 == b.f3) && ((a.f4 == b.f4) && ((a.f5 == b.f5) && ((a.f6.toList == b.f6.toList) && (attrEq a.f7 b.f7 && (a.f8.toList == b.f8.toList))))))))
theorem same_some (a b : S24) (hn : a.f7.length ≤ 9223372036854775807) : op_Same.f (a.f7.length + 1) a.f0 a.f1 a.f2 a.f3 a.f4 a.f5 a.f6 a.f7 a.f8 b.f0 b.f1 b.f2 b.f3 b.f4 b.f5 b.f6 b.f7 b.f8 = some (sameB a b) := by
  unfold op_Same.f sameB
  rw [attr_some _ _ hn]
  simp only [Option.bind_some]
  by_cases h0 : a.f0 = b.f0
  · rw [if_pos h0, beq_iff_eq.2 h0, Bool.true_and]
    by_cases h1 : a.f1 = b.f1
    · rw [if_pos h1, beq_iff_eq.2 h1, Bool.true_and]
      by_cases h2 : a.f2 = b.f2
      · rw [if_pos h2, beq_iff_eq.2 h2, Bool.true_and]
        by_cases h3 : a.f3 = b.f3
        · rw [if_pos h3, beq_iff_eq.2 h3, Bool.true_and]
          by_cases h4 : a.f4 = b.f4
          · rw [if_pos h4, beq_iff_eq.2 h4, Bool.true_and]
            by_cases h5 : a.f5 = b.f5
            · rw [if_pos h5, beq_iff_eq.2 h5, Bool.true_and]
              by_cases h6 : a.f6.toList = b.f6.toList
              · rw [if_pos h6, beq_iff_eq.2 h6, Bool.true_and]
                cases attrEq a.f7 b.f7 with
                | true => rw [if_pos rfl, Bool.true_and]
                | false => rw [if_neg (by decide), Bool.false_and]
              · rw [if_neg h6, beq_eq_false_iff_ne.2 h6, Bool.false_and]
            · rw [if_neg h5, beq_eq_false_iff_ne.2 h5, Bool.false_and]
          · rw [if_neg h4, beq_eq_false_iff_ne.2 h4, Bool.false_and]
        · rw [if_neg h3, beq_eq_false_iff_ne.2 h3, Bool.false_and]
      · rw [if_neg h2, beq_eq_false_iff_ne.2 h2, Bool.false_and]
    · rw [if_neg h1, beq_eq_false_iff_ne.2 h1, Bool.false_and]
  · rw [if_neg h0, beq_eq_false_iff_ne.2 h0, Bool.false_and]
def numB (n : Int) : Bool := decide (0 ≤ n) && decide (n ≤ 2147483647)
theorem num_some (n : Int) : op_number.f n = some (numB n) := by
  unfold op_number.f numB
  by_cases h : 0 ≤ n
  · rw [if_pos h, decide_eq_true h, Bool.true_and]
  · rw [if_neg h, decide_eq_false h, Bool.false_and]
def rightB (o : S24) : Bool := kindB o.f0 && (sameB (askedL o) o && (numB o.f1 && (numB o.f2 && (numB o.f3 && (((!(o.f0 == 1)) || ((o.f4 == 2) || ((o.f4 == 3) || (o.f4 == 5)))) && (decide (0 ≤ o.f5) && decide (o.f5 ≤ 2)))))))
end Go.Proofs.YtbljbgjecnmeeaaDoor.OpP
