/- Plain laws on what 'under' and 'made' make: ways stay ways, weights grow by little. -/
import Derived.Test.YteglfgmgpbablaaDoorCmpUnder
import Derived.Test.YteglfgmgpbablaaDoorCmpMade
import Derived.Test.YteglfgmgpbablaaDoorCmpUnderT
import Derived.Test.YteglfgmgpbablaaDoorCmpText
namespace Go.Proofs.YteglfgmgpbablaaDoor.Cmp
open Go.RowKit Go.Proofs.YteglfgmgpbablaaDoor.PCompareTells Go.Proofs.YteglfgmgpbablaaDoorW.PrintWords Go.Proofs.YteglfgmgpbablaaDoorW.PrintLast
theorem valid_take : ∀ (way : List Nat) (t : S26) (k : Nat), ValidW way t → ValidW (way.take k) t
  | [], t, k, _ => by rw [List.take_nil]; trivial
  | a :: r, t, 0, _ => trivial
  | a :: r, t, k + 1, h => ⟨h.1, valid_take r _ k h.2⟩
theorem under_valid (x : S26) : ∀ (way : List Nat) (t : S26), ValidW way t → ValidW (underL x way t).2 (underL x way t).1
  | [], t, _ => by
    rw [underL]
    split
    · trivial
    · split
      · exact ⟨by show t.f5.length < (t.f5 ++ [x]).length; simp, trivial⟩
      · trivial
  | k :: r, t, h => by
    rw [underL]
    refine ⟨by show k < (t.f5.set k _).length; rw [List.length_set]; exact h.1, ?_⟩
    have e : (t.f5.set k (underL x r (t.f5.getD k z26)).1).getD k z26 = (underL x r (t.f5.getD k z26)).1 := by
      simp [List.getD, h.1]
    show ValidW _ ((t.f5.set k (underL x r (t.f5.getD k z26)).1).getD k z26)
    rw [e]
    exact under_valid x r _ h.2
theorem WK_app : ∀ (l m : List S26), WK (l ++ m) = WK l + WK m
  | [], m => by simp [WK]
  | x :: l, m => by rw [List.cons_append, WK, WK, WK_app l m]; omega
theorem WK_set : ∀ (l : List S26) (k : Nat) (u : S26), k < l.length → WK (l.set k u) + W (l.getD k z26) = WK l + W u
  | [], k, u, h => by simp at h
  | x :: l, 0, u, _ => by rw [List.set_cons_zero, WK, WK]; simp [List.getD]; omega
  | x :: l, k + 1, u, h => by
    have := WK_set l k u (by simpa using h)
    rw [List.set_cons_succ, WK, WK]
    simp only [List.getD_cons_succ]
    omega
theorem under_W (x : S26) : ∀ (way : List Nat) (t : S26), ValidW way t → W (underL x way t).1 ≤ W t + W x + 1
  | [], t, _ => by
    rw [underL]
    split
    · dsimp only; omega
    · dsimp only
      rw [W_eq (addL t x), W_eq t]
      unfold addL
      dsimp only
      rw [WK_app, WK, WK]
      omega
  | k :: r, t, h => by
    rw [underL]
    have h1 := under_W x r (t.f5.getD k z26) h.2
    have h2 := WK_set t.f5 k (underL x r (t.f5.getD k z26)).1 h.1
    dsimp only
    rw [W_eq t]
    rw [W]
    omega
theorem ALK_app (n : Nat) : ∀ (l m : List S26), ALK n l → ALK n m → ALK n (l ++ m)
  | [], m, _, h => h
  | x :: l, m, h, h2 => by
    rw [ALK] at h
    rw [List.cons_append, ALK]
    exact ⟨h.1, ALK_app n l m h.2 h2⟩
theorem ALK_set (n : Nat) : ∀ (l : List S26) (k : Nat) (u : S26), ALK n l → AL n u → ALK n (l.set k u)
  | [], k, u, h, _ => h
  | x :: l, 0, u, h, hu => by
    rw [ALK] at h
    rw [List.set_cons_zero, ALK]
    exact ⟨hu, h.2⟩
  | x :: l, k + 1, u, h, hu => by
    rw [ALK] at h
    rw [List.set_cons_succ, ALK]
    exact ⟨h.1, ALK_set n l k u h.2 hu⟩
theorem under_AL (n : Nat) (x : S26) (hx : AL n x) : ∀ (way : List Nat) (t : S26), ValidW way t → AL n t → AL n (underL x way t).1
  | [], t, _, h => by
    rw [underL]
    split
    · exact h
    · rw [AL_eq] at h ⊢
      exact ⟨h.1, ALK_app n _ _ h.2 (by rw [ALK]; exact ⟨hx, by rw [ALK]; trivial⟩)⟩
  | k :: r, t, hv, h => by
    rw [underL]
    rw [AL_eq] at h ⊢
    refine ⟨h.1, ALK_set n _ _ _ h.2 (under_AL n x hx r _ hv.2 ?_)⟩
    have := ALK_at n t.f5 k hv.1 h.2
    have e : rd_T26 t.f5 (k : Int) = t.f5.getD k z26 := by unfold rd_T26; rfl
    rwa [e] at this
theorem made_W (x : S45) (top : Bool) : W (madeL x top) ≤ 3 := by
  unfold madeL
  split
  · simp [W, WK]
  · split
    · simp [W, WK]
    · rw [W_eq]
      dsimp only
      split
      · simp [W, WK]
      · simp [WK]
theorem made_AL (x : S45) (top : Bool) : AL 6 (madeL x top) := by
  have h := (attr_some x.f5).2
  unfold madeL
  split
  · simp [AL, ALK]
  · split
    · simp [AL, ALK]
    · rw [AL_eq]
      refine ⟨h, ?_⟩
      dsimp only
      split
      · simp [AL, ALK]
      · simp [ALK]
def withinL (a : Int) (n : Nat) : Nat := ((arbourbook_Within.f a 0 (n : Int)).getD 0).toNat
/-- One node more. -/
def stepL (x : S45) (s : S26 × List Nat) : S26 × List Nat :=
  underL (madeL x ((s.2.take (s.2.length - withinL x.f2 s.2.length)).length == 0)) (s.2.take (s.2.length - withinL x.f2 s.2.length)) s.1
def doc : S26 := ⟨1, 0, ⟨#[]⟩, [], ⟨#[]⟩, []⟩
def growS (l : List S45) : S26 × List Nat := (l.take 25).foldl (fun s x => stepL x s) (doc, [])
/-- What 'grow' makes. -/
def growL (l : List S45) : S26 := (growS l).1
def knownT (b : UInt8) : S26 := ⟨1, 0, ⟨#[]⟩, [], ⟨#[]⟩, [⟨3, 1, ⟨#[112]⟩, [], ⟨#[]⟩, [⟨4, 0, ⟨#[]⟩, [], ⟨#[b]⟩, []⟩]⟩]⟩
theorem known_a : growL [⟨3, 0, 0, false, ⟨#[]⟩, []⟩, ⟨1, 0, 0, false, ⟨#[97]⟩, []⟩] = knownT 97 := by kernel_rfl
theorem known_b : growL [⟨3, 0, 0, false, ⟨#[]⟩, []⟩, ⟨1, 0, 0, false, ⟨#[98]⟩, []⟩] = knownT 98 := by kernel_rfl
theorem known_ab : dif (knownT 97) (knownT 98) = some [0, 0] := by kernel_rfl
theorem known_aa : dif (knownT 97) (knownT 97) = none := by kernel_rfl
theorem known_txt : segs [1, 12] = [47, 49, 47, 49, 50] := by decide +kernel
/-- What holds of a tree that grows, and of the way to its last node that may hold others. -/
structure Grown (k : Nat) (s : S26 × List Nat) : Prop where
  valid : ValidW s.2 s.1
  weight : W s.1 ≤ 1 + 4 * k
  attrs : AL 6 s.1
theorem grown_doc : Grown 0 (doc, []) := ⟨trivial, by simp [doc, W, WK], by simp [doc, AL, ALK]⟩
theorem grown_step (k : Nat) (x : S45) (s : S26 × List Nat) (h : Grown k s) : Grown (k + 1) (stepL x s) := by
  have hv := valid_take s.2 s.1 (s.2.length - withinL x.f2 s.2.length) h.valid
  refine ⟨under_valid _ _ _ hv, ?_, under_AL 6 _ (made_AL _ _) _ _ hv h.attrs⟩
  have h1 := under_W (madeL x ((s.2.take (s.2.length - withinL x.f2 s.2.length)).length == 0)) _ _ hv
  have h2 := made_W x ((s.2.take (s.2.length - withinL x.f2 s.2.length)).length == 0)
  have h3 := h.weight
  unfold stepL
  omega
theorem way_len : ∀ (way : List Nat) (t : S26), ValidW way t → way.length ≤ W t
  | [], t, _ => by simp
  | k :: r, t, h => by
    have h1 := way_len r _ h.2
    have h2 := W_kid t k h.1
    rw [List.length_cons]
    omega
end Go.Proofs.YteglfgmgpbablaaDoor.Cmp
