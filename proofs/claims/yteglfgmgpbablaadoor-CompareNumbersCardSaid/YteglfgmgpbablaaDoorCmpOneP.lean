/- Plain laws on the same tree with one text turned. -/
import Derived.Test.YteglfgmgpbablaaDoorCmpTurn
import Derived.Test.YteglfgmgpbablaaDoorCmpGrow
import Derived.Test.YteglfgmgpbablaaDoorCmpAt
namespace Go.Proofs.YteglfgmgpbablaaDoor.Cmp
open Go.RowKit Go.Proofs.YteglfgmgpbablaaDoor.PCompareTells Go.Proofs.YteglfgmgpbablaaDoorW.PrintWords Go.Proofs.YteglfgmgpbablaaDoorW.PrintLast
theorem sameA_refl : ∀ l : List S47, sameA l l = true
  | [] => rfl
  | a :: l => by simp [sameA, sameA_refl l]
theorem labL_refl (a : S26) : labL a a = true := by simp [labL, sameA_refl]
mutual
theorem dif_refl : ∀ a : S26, dif a a = none
  | ⟨a0, a1, a2, a3, a4, a5⟩ => by
    rw [dif_eq, labL_refl, if_pos rfl]
    exact difK_refl a5 0
theorem difK_refl : ∀ (l : List S26) (i : Int), difK l l i = none
  | [], i => by rw [difK]
  | x :: l, i => by rw [difK, dif_refl x]; exact difK_refl l (i + 1)
end
theorem difK_set : ∀ (l : List S26) (k : Nat) (y : S26) (i : Int), k < l.length → difK l (l.set k y) i = (dif (l.getD k z26) y).map (fun p => (i + (k : Int)) :: p)
  | [], k, y, i, h => by simp at h
  | x :: l, 0, y, i, _ => by
    rw [List.set_cons_zero, difK]
    show _ = (dif x y).map _
    cases e : dif x y with
    | none => exact difK_refl l (i + 1)
    | some p => simp
  | x :: l, k + 1, y, i, h => by
    rw [List.set_cons_succ, difK, dif_refl x]
    show difK l (l.set k y) (i + 1) = _
    rw [difK_set l k y (i + 1) (by simpa using h)]
    show _ = (dif (l.getD k z26) y).map _
    cases dif (l.getD k z26) y with
    | none => rfl
    | some p =>
      simp only [Option.map_some, Option.some.injEq, List.cons.injEq, and_true]
      omega
/-- The node at a way's end. -/
def nodeL : List Nat → S26 → S26
  | [], t => t
  | k :: r, t => nodeL r (t.f5.getD k z26)
theorem turn_dif (s : ByteArray) : ∀ (way : List Nat) (t : S26), ValidW way t → dif t (turnL s way t) = if (nodeL way t).f4.toList == s.toList then none else some (way.map Int.ofNat)
  | [], t, _ => by
    rw [dif_eq]
    have e : labL t (turnL s [] t) = (t.f4.toList == s.toList) := by simp [labL, turnL, sameA_refl]
    rw [e]
    show _ = if t.f4.toList == s.toList then none else some []
    cases t.f4.toList == s.toList with
    | true => rw [if_pos rfl, if_pos rfl]; exact difK_refl t.f5 0
    | false => rfl
  | k :: r, t, h => by
    rw [dif_eq]
    have e : labL t (turnL s (k :: r) t) = true := by simp [labL, turnL, sameA_refl]
    rw [e, if_pos rfl]
    show difK t.f5 (t.f5.set k (turnL s r (t.f5.getD k z26))) 0 = _
    rw [difK_set _ _ _ _ h.1, turn_dif s r _ h.2]
    show _ = if (nodeL r (t.f5.getD k z26)).f4.toList == s.toList then none else some ((k :: r).map Int.ofNat)
    cases (nodeL r (t.f5.getD k z26)).f4.toList == s.toList with
    | true => rfl
    | false => simp
theorem turn_at_ (s : ByteArray) : ∀ (way : List Nat) (t : S26), ValidW way t → ∃ y, atL (way.map Int.ofNat) (turnL s way t) = some y ∧ y.f4 = s
  | [], t, _ => ⟨_, rfl, rfl⟩
  | k :: r, t, h => by
    obtain ⟨y, hy, hs⟩ := turn_at_ s r _ h.2
    refine ⟨y, ?_, hs⟩
    rw [List.map_cons, atL, turnL]
    dsimp only
    rw [if_pos ⟨Int.natCast_nonneg k, by rw [List.length_set]; have := h.1; simpa using this⟩]
    have e : (t.f5.set k (turnL s r (t.f5.getD k z26))).getD (Int.ofNat k).toNat z26 = turnL s r (t.f5.getD k z26) := by
      show (t.f5.set k (turnL s r (t.f5.getD k z26))).getD k z26 = _
      simp [List.getD, h.1]
    rw [e]
    exact hy
theorem turn_W (s : ByteArray) : ∀ (way : List Nat) (t : S26), ValidW way t → W (turnL s way t) = W t
  | [], t, _ => by rw [turnL, W_eq, W_eq t]
  | k :: r, t, h => by
    have h1 := turn_W s r _ h.2
    have h2 := WK_set t.f5 k (turnL s r (t.f5.getD k z26)) h.1
    rw [turnL, W_eq, W_eq t]
    dsimp only
    omega
theorem turn_AL (n : Nat) (s : ByteArray) : ∀ (way : List Nat) (t : S26), ValidW way t → AL n t → AL n (turnL s way t)
  | [], t, _, h => by rw [AL_eq] at h; rw [turnL, AL_eq]; exact h
  | k :: r, t, hv, h => by
    rw [AL_eq] at h
    rw [turnL, AL_eq]
    refine ⟨h.1, ALK_set n _ _ _ h.2 (turn_AL n s r _ hv.2 ?_)⟩
    have := ALK_at n t.f5 k hv.1 h.2
    have e : rd_T26 t.f5 (k : Int) = t.f5.getD k z26 := by unfold rd_T26; rfl
    rwa [e] at this
theorem node_snoc : ∀ (way : List Nat) (k : Nat) (t : S26), nodeL (way ++ [k]) t = (nodeL way t).f5.getD k z26
  | [], _, _ => rfl
  | _ :: r, k, _ => node_snoc r k _
theorem valid_snoc : ∀ (way : List Nat) (k : Nat) (t : S26), ValidW way t → k < (nodeL way t).f5.length → ValidW (way ++ [k]) t
  | [], _, _, _, h => ⟨h, trivial⟩
  | _ :: r, k, _, hv, h => ⟨hv.1, valid_snoc r k _ hv.2 h⟩
theorem node_W : ∀ (way : List Nat) (t : S26), ValidW way t → way.length + W (nodeL way t) ≤ W t
  | [], t, _ => by show 0 + W t ≤ W t; omega
  | k :: r, t, h => by
    have h1 := node_W r _ h.2
    have h2 := W_kid t k h.1
    show r.length + 1 + W (nodeL r (t.f5.getD k z26)) ≤ W t
    omega
end Go.Proofs.YteglfgmgpbablaaDoor.Cmp
