/- Checks by computing: what the arena's calls want of a list of nodes. -/
import Derived.Test.YtjebpaapkmbahaaArPure
namespace Go.Proofs.Ytjebpaapkmbahaa.Ar
open Go.RowKit Go.Proofs.Ytjebpaapkmbahaa.PArenaPlays Go.Proofs.YtjebpaapkmbahaaW.PrintWords Go.Proofs.YtjebpaapkmbahaaW.PrintLast
set_option linter.unusedVariables false
set_option linter.unusedSimpArgs false
def refB (l : List S72) (r : Int) : Bool := r == -1 || (decide (0 ≤ r) && decide (r < (l.length : Int)))
theorem refB_ok {l : List S72} {r : Int} (h : refB l r = true) : Ref l r := by
  unfold refB at h
  simp only [Bool.or_eq_true, beq_iff_eq, Bool.and_eq_true, decide_eq_true_eq] at h
  rcases h with h | ⟨h1, h2⟩
  · exact .inl h
  · exact .inr ⟨r.toNat, by omega, by omega⟩
def upB (l : List S72) : Nat → Int → Bool
  | 0, n => n == -1
  | k + 1, n => n == -1 || ((decide (0 ≤ n) && decide (n < (l.length : Int))) && upB l k (nd l n.toNat).f1)
theorem upB_ok (l : List S72) : ∀ (k : Nat) (n : Int), upB l k n = true → Up l n (upF l k n)
  | 0, n, h => by
    have e : n = -1 := by unfold upB at h; simpa using h
    subst e
    exact .nil
  | k + 1, n, h => by
    unfold upB at h
    simp only [Bool.or_eq_true, beq_iff_eq, Bool.and_eq_true, decide_eq_true_eq] at h
    unfold upF
    by_cases e : n = -1
    · rw [if_pos e, e]
      exact .nil
    · rw [if_neg e]
      obtain ⟨⟨h1, h2⟩, h3⟩ := h.resolve_left e
      have := upB_ok l k _ h3
      have e2 : n = (n.toNat : Int) := by omega
      rw [e2]
      refine .cons (by omega) ?_
      rw [e2] at this
      exact this
def kcB (l : List S72) : Nat → Int → Bool
  | 0, n => n == -1
  | k + 1, n => n == -1 || ((decide (0 ≤ n) && decide (n < (l.length : Int))) && kcB l k (nd l n.toNat).f5)
theorem kcB_ok (l : List S72) : ∀ (k : Nat) (n : Int), kcB l k n = true → Kc l n (kidsF l k n)
  | 0, n, h => by
    have e : n = -1 := by unfold kcB at h; simpa using h
    subst e
    exact .nil
  | k + 1, n, h => by
    unfold kcB at h
    simp only [Bool.or_eq_true, beq_iff_eq, Bool.and_eq_true, decide_eq_true_eq] at h
    unfold kidsF
    by_cases e : n = -1
    · rw [if_pos e, e]
      exact .nil
    · rw [if_neg e]
      obtain ⟨⟨h1, h2⟩, h3⟩ := h.resolve_left e
      have := kcB_ok l k _ h3
      have e2 : n = (n.toNat : Int) := by omega
      rw [e2]
      refine .cons (by omega) ?_
      rw [e2] at this
      exact this
def htB (l : List S72) : Nat → Nat → Bool
  | 0, n => (kidsL l n).isEmpty
  | k + 1, n => (kidsL l n).all (htB l k)
theorem htB_ok (l : List S72) : ∀ (k n : Nat), htB l k n = true → Ht l k n
  | 0, n, h => by
    unfold htB at h
    exact List.isEmpty_iff.1 h
  | k + 1, n, h => by
    unfold htB at h
    intro m hm
    exact htB_ok l k m (List.all_eq_true.1 h m hm)
def okB (l : List S72) : Bool := (List.range l.length).all fun m => upB l l.length m && (kcB l l.length (nd l m).f2 && (refB l (nd l m).f3 && (htB l l.length m && ((nd l m).f0.f5.isEmpty && ((nd l m).f0.f3.length.ble 1000000 && (kidsL l m).length.ble 1000000)))))
structure OkL (l : List S72) : Prop extends PureOk l where
  up : ∀ m, m < l.length → Up l (m : Int) (ups l m)
  la : ∀ m, m < l.length → Ref l (nd l m).f3
theorem okB_ok {l : List S72} (h : okB l = true) : OkL l := by
  have H : ∀ m, m < l.length → _ := fun m hm => (List.all_eq_true.1 h m (List.mem_range.2 hm))
  simp only [Bool.and_eq_true, Nat.ble_eq, List.isEmpty_iff] at H
  exact { kc := fun m hm => kcB_ok l _ _ (H m hm).2.1, kl := fun m hm => (H m hm).2.2.2.2.2.2, f5 := fun m hm => (H m hm).2.2.2.2.1, att := fun m hm => (H m hm).2.2.2.2.2.1, ht := fun m hm => htB_ok l _ _ (H m hm).2.2.2.1, up := fun m hm => upB_ok l _ _ (H m hm).1, la := fun m hm => refB_ok (H m hm).2.2.1 }
theorem OkL.lk {l : List S72} (h : OkL l) (a b : Nat) (ha : a < l.length) (hb : b < l.length) : LinkOk l a b (-1) := ⟨ha, hb, .inl rfl, by
  unfold bef
  rw [if_pos rfl]
  exact h.la a ha⟩
theorem Ref.app {l : List S72} {r : Int} (h : Ref l r) (xs : List S72) : Ref (l ++ xs) r := by
  rcases h with h | ⟨k, h1, h2⟩
  · exact .inl h
  · exact .inr ⟨k, h1, by rw [List.length_append]; omega⟩
theorem nd_app1 {l : List S72} {m : Nat} (h : m < l.length) (xs : List S72) : nd (l ++ xs) m = nd l m := by
  unfold nd
  rw [List.getD_eq_getElem?_getD, List.getD_eq_getElem?_getD, List.getElem?_append_left h]
theorem OkL.lk2 {l : List S72} (h : OkL l) (x : S72) (a : Nat) (ha : a < l.length) : LinkOk (l ++ [x]) a l.length (-1) := ⟨by simp; omega, by simp, .inl rfl, by
  unfold bef
  rw [if_pos rfl, nd_app1 ha]
  exact (h.la a ha).app _⟩
/-- Append, Write, Kids, Pure on a list that is right. -/
theorem OkL.append {l : List S72} (h : OkL l) {w : World} {N g : Nat} {q : Bool} (hA : AS w N g l q) (h0 : 0 < l.length) (hN : N ≤ w.heap.size) (p n : Int) {r : Int} {l2 : List S72} (he : appendL l p n = (r, l2)) :
    Calls Try.prog 13 #[.pointer (some ⟨g, 0, none⟩), .int .i64 p, .int .i64 n] w (Post N g q w r l2) := by
  obtain ⟨gl, cap, hO⟩ := hA.open_ h0
  refine (Ar.append hO hN p n h.up h.lk).mono fun e w' hp => hp.cong ?_ ?_ <;> rw [he]
theorem OkL.write {l : List S72} (h : OkL l) {w : World} {N g : Nat} {q : Bool} (hA : AS w N g l q) (h0 : 0 < l.length) (hN : N ≤ w.heap.size) (p : Int) (s : ByteArray) (hlen : l.length ≤ 100000000) (hts : ∀ x, x ∈ l → x.f0.f4.size + s.size ≤ 1000000000) {r : Int} {l2 : List S72} (he : writeL l p s = (r, l2)) :
    Calls Try.prog 16 #[.pointer (some ⟨g, 0, none⟩), .int .i64 p, .string s] w (Post N g q w r l2) := by
  obtain ⟨gl, cap, hO⟩ := hA.open_ h0
  refine (Ar.write hO hN p s hlen (fun k hk => hts _ (List.mem_of_getElem? (nd_get hk))) h.la (fun k hk => h.lk2 _ k hk)).mono fun e w' hp => hp.cong ?_ ?_ <;> rw [he]
theorem OkL.kids {l : List S72} (h : OkL l) {w : World} {N g : Nat} {q : Bool} (hA : AS w N g l q) (n : Nat) (hn : n < l.length) :
    Calls Try.prog 21 #[.pointer (some ⟨g, 0, none⟩), .int .i64 (n : Int)] w fun e w' => ∃ A c, e = .returned (.slice A (kidsL l n).length c) ∧ kI.R 3 w' w.heap.size (fun _ => True) (.slice A (kidsL l n).length c) ((kidsL l n).map Int.ofNat) ∧ Below w.heap.size w w' := by
  obtain ⟨gl, cap, hO⟩ := hA.open_ (by omega)
  refine (Ar.kids hO n hn (h.kc n hn) (h.kl n hn)).mono ?_
  rintro e w' ⟨v, rfl, hR, hB⟩
  obtain ⟨A, c, rfl⟩ := Kd.R_slice hR
  rw [List.length_map] at hR ⊢
  exact ⟨A, c, rfl, hR, hB⟩
theorem make0 {w : World} {N g : Nat} {l : List S72} {q : Bool} (hA : AS w N g l q) (h0 : 0 < l.length) (hN : N ≤ w.heap.size) (kind ns : Int) (name text : ByteArray) (hl : l.length ≤ 100000000 - 1) {n r : Int} {l2 : List S72} (he : makeL l kind ns name [] text = (n, r, l2)) :
    Calls Try.prog 12 #[.pointer (some ⟨g, 0, none⟩), .int .i64 kind, .int .i64 ns, .string name, .slice none 0 0, .string text] w (PostM N g q w n r l2) := by
  obtain ⟨gl, cap, hO⟩ := hA.open_ h0
  have h1 := make hO hN kind ns name text none 0 [] ⟨Kd.C_nil k62 w, Nat.le_refl _⟩ (by decide) hl
  refine h1.mono fun e w' hp => ?_
  rw [he] at hp
  exact hp
end Go.Proofs.Ytjebpaapkmbahaa.Ar
