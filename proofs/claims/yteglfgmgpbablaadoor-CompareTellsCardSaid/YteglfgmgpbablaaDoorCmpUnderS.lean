/- The walk of arbourlaw24.under: the steps down a way. -/
import Derived.Test.YteglfgmgpbablaaDoorCmpUnder
namespace Go.Proofs.YteglfgmgpbablaaDoor.Cmp
open Go.RowKit Go.Proofs.YteglfgmgpbablaaDoor.PCompareTells Go.Proofs.YteglfgmgpbablaaDoorW.PrintWords Go.Proofs.YteglfgmgpbablaaDoorW.PrintLast
/-- What 'under' is asked of: a way that leads to a node. -/
def UnderAt (x : S26) (n : Nat) : Prop := ∀ (way : List Nat) (t : S26) (vt vx : Value) (w : World) (ok : Nat → Prop) (Aw : Option Addr) (cw : Nat), way.length = n → ValidW way t → TF w ok vt t → TF w ok vx x → W t ≤ 100000000 → way.length ≤ cw → kI.C w Aw (way.map Int.ofNat).length (way.map Int.ofNat) →
    Calls Tryd.prog 21 #[vt, .slice Aw way.length cw, vx] w fun e w' => ∃ v vw, e = .returned (.tuple #[v, vw]) ∧ TF w' (fun k => ok k ∨ w.heap.size ≤ k) v (underL x way t).1 ∧ WF w' (fun k => ok k ∨ w.heap.size ≤ k) vw (underL x way t).2 ∧ Below w.heap.size w w'
theorem under_zero (x : S26) : UnderAt x 0 := by
  intro way t vt vx w ok Aw cw hl _ ht hx hW _ _
  have h0 : way = [] := List.eq_nil_of_length_eq_zero hl
  subst h0
  exact under0 t x vt vx w ok Aw cw ht hx (by have := W_eq t; have := WK_len t.f5; omega)
theorem W_kid (t : S26) (k : Nat) (h : k < t.f5.length) : W (t.f5.getD k z26) < W t := by
  have h1 := WK_at t.f5 k h
  have h2 := W_eq t
  have e : rd_T26 t.f5 (k : Int) = t.f5.getD k z26 := by unfold rd_T26; rfl
  rw [e] at h1
  omega
/-- The three boxes that 'under' makes first. -/
theorem boxes3 (t x : S26) (A3 : Option Addr) (c3 : Nat) (A5 : Option Addr) (c5 : Nat) (B3 : Option Addr) (d3 : Nat) (B5 : Option Addr) (d5 : Nat) (w : World) :
    ∃ w1 w2 w3, w.alloc (.cells #[.int .i64 t.f0, .int .i64 t.f1, .string t.f2, .slice A3 t.f3.length c3, .string t.f4, .slice A5 t.f5.length c5] 26) = w1 ∧ w1.alloc (.cells #[.int .i64 x.f0, .int .i64 x.f1, .string x.f2, .slice B3 x.f3.length d3, .string x.f4, .slice B5 x.f5.length d5] 26) = w2 ∧ w2.alloc (.cells #[.int .i64 0, .int .i64 0, .string ⟨#[]⟩, .slice none 0 0, .string ⟨#[]⟩, .slice none 0 0] 26) = w3 ∧ w1.heap.size = w.heap.size + 1 ∧ w2.heap.size = w.heap.size + 2 ∧ w3.heap.size = w.heap.size + 3 ∧ Below w.heap.size w w2 ∧ Below w2.heap.size w2 w3 ∧ Below w.heap.size w w3 ∧ w3.heap[w.heap.size]? = some (.cells #[.int .i64 t.f0, .int .i64 t.f1, .string t.f2, .slice A3 t.f3.length c3, .string t.f4, .slice A5 t.f5.length c5] 26 (0, 0)) ∧ w3.heap[w1.heap.size]? = some (.cells #[.int .i64 x.f0, .int .i64 x.f1, .string x.f2, .slice B3 x.f3.length d3, .string x.f4, .slice B5 x.f5.length d5] 26 (0, 0)) ∧ w3.heap[w2.heap.size]? = some (.cells #[.int .i64 0, .int .i64 0, .string ⟨#[]⟩, .slice none 0 0, .string ⟨#[]⟩, .slice none 0 0] 26 (0, 0)) := by
  have hb1 := below_alloc (Below.refl w.heap.size w) (.cells #[.int .i64 t.f0, .int .i64 t.f1, .string t.f2, .slice A3 t.f3.length c3, .string t.f4, .slice A5 t.f5.length c5] 26)
  have hs1 : (w.alloc (.cells #[.int .i64 t.f0, .int .i64 t.f1, .string t.f2, .slice A3 t.f3.length c3, .string t.f4, .slice A5 t.f5.length c5] 26)).heap.size = w.heap.size + 1 := by simp
  have hn1 := heap_alloc_new w (.cells #[.int .i64 t.f0, .int .i64 t.f1, .string t.f2, .slice A3 t.f3.length c3, .string t.f4, .slice A5 t.f5.length c5] 26)
  obtain ⟨w1, hw1⟩ : ∃ w1, w.alloc (.cells #[.int .i64 t.f0, .int .i64 t.f1, .string t.f2, .slice A3 t.f3.length c3, .string t.f4, .slice A5 t.f5.length c5] 26) = w1 := ⟨_, rfl⟩
  rw [hw1] at hb1 hs1 hn1
  have hb2 := below_alloc (Below.refl w1.heap.size w1) (.cells #[.int .i64 x.f0, .int .i64 x.f1, .string x.f2, .slice B3 x.f3.length d3, .string x.f4, .slice B5 x.f5.length d5] 26)
  have hn2 := heap_alloc_new w1 (.cells #[.int .i64 x.f0, .int .i64 x.f1, .string x.f2, .slice B3 x.f3.length d3, .string x.f4, .slice B5 x.f5.length d5] 26)
  have hs2 : (w1.alloc (.cells #[.int .i64 x.f0, .int .i64 x.f1, .string x.f2, .slice B3 x.f3.length d3, .string x.f4, .slice B5 x.f5.length d5] 26)).heap.size = w.heap.size + 2 := by simp [hs1]
  obtain ⟨w2, hw2⟩ : ∃ w2, w1.alloc (.cells #[.int .i64 x.f0, .int .i64 x.f1, .string x.f2, .slice B3 x.f3.length d3, .string x.f4, .slice B5 x.f5.length d5] 26) = w2 := ⟨_, rfl⟩
  rw [hw2] at hb2 hn2 hs2
  have hb3 := below_alloc (Below.refl w2.heap.size w2) (.cells #[.int .i64 0, .int .i64 0, .string ⟨#[]⟩, .slice none 0 0, .string ⟨#[]⟩, .slice none 0 0] 26)
  have hn3 := heap_alloc_new w2 (.cells #[.int .i64 0, .int .i64 0, .string ⟨#[]⟩, .slice none 0 0, .string ⟨#[]⟩, .slice none 0 0] 26)
  have hs3 : (w2.alloc (.cells #[.int .i64 0, .int .i64 0, .string ⟨#[]⟩, .slice none 0 0, .string ⟨#[]⟩, .slice none 0 0] 26)).heap.size = w.heap.size + 3 := by simp [hs2]
  obtain ⟨w3, hw3⟩ : ∃ w3, w2.alloc (.cells #[.int .i64 0, .int .i64 0, .string ⟨#[]⟩, .slice none 0 0, .string ⟨#[]⟩, .slice none 0 0] 26) = w3 := ⟨_, rfl⟩
  rw [hw3] at hb3 hn3 hs3
  have b02 := below_step hb1 hb2
  exact ⟨w1, w2, w3, hw1, hw2, hw3, hs1, hs2, hs3, b02, hb3, below_step b02 hb3, (hb3.block _ (by omega)).trans ((hb2.block _ (by omega)).trans hn1), (hb3.block _ (by omega)).trans hn2, hn3⟩
end Go.Proofs.YteglfgmgpbablaaDoor.Cmp
