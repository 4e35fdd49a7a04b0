/- Plain laws about lists of attributes: More, Unique, Alike. No program in sight. -/
import Derived.Test.YtgjnopabdipleaaAttrsAlike
namespace Go.Proofs.Ytgjnopabdipleaa.Attrs
open Go.RowKit Go.Proofs.Ytgjnopabdipleaa.PAttrsTells

theorem hit_symm (x y : S29) : hit x.f0 y = hit y.f0 x := by unfold hit; exact Bool.eq_iff_iff.2 ⟨fun h => by simpa using (by simpa using h : y.f0.toList = x.f0.toList).symm, fun h => by simpa using (by simpa using h : x.f0.toList = y.f0.toList).symm⟩
theorem hit_self (x : S29) : hit x.f0 x = true := by unfold hit; simp
theorem hit_trans {x y z : S29} (h1 : hit x.f0 y = true) (h2 : hit y.f0 z = true) : hit x.f0 z = true := by
  unfold hit at *
  simp only [beq_iff_eq] at *
  rw [h2, h1]
theorem fndFrom_find (nm : ByteArray) : ∀ (xs : List S29) (i : Nat), (xs.find? (hit nm) = none ∧ fndFrom nm xs i = -1) ∨ (∃ (j : Nat) (y : S29), xs.find? (hit nm) = some y ∧ fndFrom nm xs i = ((i + j : Nat) : Int) ∧ xs[j]? = some y)
  | [], i => .inl ⟨rfl, rfl⟩
  | x :: xs, i => by
    unfold fndFrom
    rw [List.find?_cons]
    cases h : hit nm x
    · rw [if_neg (by decide)]
      rcases fndFrom_find nm xs (i + 1) with ⟨h1, h2⟩ | ⟨j, y, h1, h2, h3⟩
      · exact .inl ⟨h1, h2⟩
      · exact .inr ⟨j + 1, y, h1, by rw [h2]; congr 1; omega, by simpa using h3⟩
    · rw [if_pos rfl]
      exact .inr ⟨0, x, rfl, rfl, rfl⟩
theorem fnd_none {xs : List S29} {nm : ByteArray} (h : xs.find? (hit nm) = none) : fnd xs nm = -1 := by
  unfold fnd
  rcases fndFrom_find nm xs 0 with ⟨_, h2⟩ | ⟨j, y, h1, _, _⟩
  · exact h2
  · rw [h] at h1; cases h1
theorem fnd_some {xs : List S29} {nm : ByteArray} {y : S29} (h : xs.find? (hit nm) = some y) : 0 ≤ fnd xs nm ∧ xs.getD (fnd xs nm).toNat z29 = y := by
  unfold fnd
  rcases fndFrom_find nm xs 0 with ⟨h1, _⟩ | ⟨j, z, h1, h2, h3⟩
  · rw [h] at h1; cases h1
  · rw [h] at h1
    cases h1
    rw [h2]
    refine ⟨by omega, ?_⟩
    rw [Int.toNat_natCast, Nat.zero_add, List.getD_eq_getElem?_getD, h3]
    rfl
theorem addL_find (xs : List S29) (x : S29) : addL xs x = if xs.find? (hit x.f0) = none then xs ++ [x] else xs := by
  unfold addL
  cases h : xs.find? (hit x.f0) with
  | none => rw [fnd_none h, if_pos (by decide), if_pos rfl]
  | some y => rw [if_neg (by have := (fnd_some h).1; omega), if_neg (by simp)]
theorem moreL_pre : ∀ (ys xs : List S29), ∃ t, moreL xs ys = xs ++ t
  | [], xs => ⟨[], by simp [moreL]⟩
  | y :: ys, xs => by
    obtain ⟨t, ht⟩ := moreL_pre ys (addL xs y)
    show ∃ t, moreL (addL xs y) ys = xs ++ t
    rw [ht, addL_find]
    split
    · exact ⟨[y] ++ t, by rw [List.append_assoc]⟩
    · exact ⟨t, rfl⟩
theorem find_pre {xs t : List S29} {nm : ByteArray} {y : S29} (h : xs.find? (hit nm) = some y) : (xs ++ t).find? (hit nm) = some y := by rw [List.find?_append, h]; rfl
theorem more_has : ∀ (ys xs : List S29) (y : S29), y ∈ ys → (moreL xs ys).find? (hit y.f0) ≠ none
  | z :: ys, xs, y, hy => by
    show (moreL (addL xs z) ys).find? (hit y.f0) ≠ none
    rcases List.mem_cons.1 hy with rfl | hy
    · obtain ⟨t, ht⟩ := moreL_pre ys (addL xs y)
      rw [ht]
      have : ∃ u, (addL xs y).find? (hit y.f0) = some u := by
        rw [addL_find]
        split
        · rename_i h
          exact ⟨y, by rw [List.find?_append, h]; simp [hit_self]⟩
        · rename_i h
          exact Option.ne_none_iff_exists'.1 h
      obtain ⟨u, hu⟩ := this
      rw [find_pre hu]
      simp
    · exact more_has ys _ y hy
theorem more_same : ∀ (ys zs : List S29), (∀ y ∈ ys, zs.find? (hit y.f0) ≠ none) → moreL zs ys = zs
  | [], zs, _ => rfl
  | y :: ys, zs, h => by
    show moreL (addL zs y) ys = zs
    have : addL zs y = zs := by rw [addL_find, if_neg (h y List.mem_cons_self)]
    rw [this]
    exact more_same ys zs (fun z hz => h z (List.mem_cons_of_mem _ hz))
theorem more_more (xs ys : List S29) : moreL (moreL xs ys) ys = moreL xs ys := more_same _ _ (fun y hy => more_has ys xs y hy)
/-- No two of one name. -/
def Nd (us : List S29) : Prop := us.Pairwise (fun a b => hit a.f0 b = false)
theorem nd_add (xs : List S29) (x : S29) (h : Nd xs) : Nd (addL xs x) := by
  rw [addL_find]
  split
  · rename_i hn
    refine List.pairwise_append.2 ⟨h, List.pairwise_singleton _ _, fun a ha b hb => ?_⟩
    rw [List.mem_singleton.1 hb, hit_symm]
    simpa using List.find?_eq_none.1 hn a ha
  · exact h
theorem nd_more : ∀ (ys xs : List S29), Nd xs → Nd (moreL xs ys)
  | [], _, h => h
  | y :: ys, xs, h => nd_more ys _ (nd_add xs y h)
theorem nd_unique (xs : List S29) : Nd (moreL [] xs) := nd_more xs [] List.Pairwise.nil
theorem more_nd : ∀ (us pre : List S29), Nd (pre ++ us) → moreL pre us = pre ++ us
  | [], pre, _ => by simp [moreL]
  | u :: us, pre, h => by
    show moreL (addL pre u) us = pre ++ u :: us
    have hp := (List.pairwise_append.1 h).2.2
    have e : addL pre u = pre ++ [u] := by
      rw [addL_find, if_pos]
      refine List.find?_eq_none.2 (fun a ha => ?_)
      rw [hit_symm, hp a ha u List.mem_cons_self]
      decide
    rw [e, more_nd us (pre ++ [u]) (by rw [List.append_assoc]; exact h), List.append_assoc]
    rfl
theorem unique_nd {us : List S29} (h : Nd us) : moreL [] us = us := more_nd us [] h
theorem nd_perm {us vs : List S29} (h : Nd us) (p : us.Perm vs) : Nd vs := (p.pairwise_iff (fun {x y} hxy => by rw [hit_symm]; exact hxy)).1 h
theorem find_mem : ∀ (vs : List S29) (x : S29), Nd vs → x ∈ vs → vs.find? (hit x.f0) = some x
  | y :: vs, x, h, hx => by
    rw [List.find?_cons]
    rcases List.mem_cons.1 hx with rfl | hx
    · rw [hit_self]
    · have := (List.pairwise_cons.1 h).1 x hx
      rw [hit_symm] at this
      rw [this]
      exact find_mem vs x (List.pairwise_cons.1 h).2 hx
theorem has2_mem {vs : List S29} {x : S29} (h : Nd vs) (hx : x ∈ vs) : has2 vs x = true := by
  obtain ⟨h1, h2⟩ := fnd_some (find_mem vs x h hx)
  unfold has2
  rw [h2, decide_eq_true h1]
  simp
theorem alikeU_perm {us vs : List S29} (h : Nd vs) (p : us.Perm vs) : alikeU us vs = true := by
  unfold alikeU
  rw [decide_eq_true p.length_eq, Bool.true_and]
  exact List.all_eq_true.2 (fun x hx => has2_mem h (p.mem_iff.1 hx))
theorem alike_perm {us vs : List S29} (hu : Nd us) (p : us.Perm vs) : alikeL us vs = true := by
  unfold alikeL
  rw [unique_nd hu, unique_nd (nd_perm hu p)]
  exact alikeU_perm (nd_perm hu p) p
theorem alike_unique {us xs : List S29} (p : us.Perm (moreL [] xs)) : alikeL us xs = true := by
  unfold alikeL
  rw [unique_nd (nd_perm (nd_unique xs) p.symm)]
  exact alikeU_perm (nd_unique xs) p
theorem alike_self (xs : List S29) : alikeL xs xs = true := by
  unfold alikeL
  exact alikeU_perm (nd_unique xs) (List.Perm.refl _)
theorem rot_perm (us : List S29) (k : Nat) : (us.drop k ++ us.take k).Perm us := by
  have := List.perm_append_comm (l₁ := us.drop k) (l₂ := us.take k)
  rwa [List.take_append_drop] at this
theorem more_nil (xs : List S29) (h : moreL [] xs = []) : xs = [] := by
  cases xs with
  | nil => rfl
  | cons x xs => exact absurd (by rw [h]; rfl) (more_has (x :: xs) [] x List.mem_cons_self)
theorem more_take (xs ys : List S29) : (moreL xs ys).take xs.length = xs := by
  obtain ⟨t, ht⟩ := moreL_pre ys xs
  rw [ht, List.take_left]
theorem more_len_ge (xs ys : List S29) : xs.length ≤ (moreL xs ys).length := by
  obtain ⟨t, ht⟩ := moreL_pre ys xs
  rw [ht, List.length_append]
  omega
/-- The loop of AttrsMore: each name of m's is in l with m's; where l has it, with l's value. -/
theorem more_get (xs ys : List S29) (y : S29) (hy : y ∈ ys) : 0 ≤ fnd (moreL xs ys) y.f0 ∧ (0 ≤ fnd xs y.f0 → getV (moreL xs ys) y.f0 = getV xs y.f0) := by
  obtain ⟨u, hu⟩ := Option.ne_none_iff_exists'.1 (more_has ys xs y hy)
  refine ⟨(fnd_some hu).1, fun h => ?_⟩
  cases hx : xs.find? (hit y.f0) with
  | none => rw [fnd_none hx] at h; omega
  | some z =>
    obtain ⟨t, ht⟩ := moreL_pre ys xs
    have e := find_pre (t := t) hx
    rw [← ht] at e
    unfold getV
    rw [if_neg (by have := (fnd_some e).1; omega), if_neg (by omega), (fnd_some e).2, (fnd_some hx).2]
end Go.Proofs.Ytgjnopabdipleaa.Attrs
