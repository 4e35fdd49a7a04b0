import Derived.Test.YtjmaiihgjghgjaaRefsElder
import Derived.Great.BuildSlice
namespace Go.Proofs.Ytjmaiihgjghgjaa.RefsNumber
open Go.RowKit Go.Proofs.Ytjmaiihgjghgjaa.Pure Go.Proofs.YtjmaiihgjghgjaaW.PrintWords Go.Proofs.YtjmaiihgjghgjaaW.PrintLast

set_option maxHeartbeats 400000 in
set_option maxRecDepth 100000 in
theorem ref_bad (n : Int) (h : badN n = true) (w : World) :
    Calls Try.prog 15 #[.int .i64 n] w fun e w' => e = .returned (.string (numText n)) ∧ Below w.heap.size w w' := by
  rw [text_bad h]
  have hb := bad_yes h
  clear h
  rcases hb with h | ⟨h1, h2⟩ | ⟨h1, h2, h3, h4⟩
  all_goals
    go_enter Try.func15, Try.ntmps15
    go_wp2
    go_ret
    exact ⟨rfl, Below.refl _ _⟩

set_option maxHeartbeats 400000 in
set_option maxRecDepth 100000 in
theorem ref_own (n : Int) (h : badN n = false) (ho : n < 128 ∨ 160 ≤ n) (w : World) :
    Calls Try.prog 15 #[.int .i64 n] w fun e w' => e = .returned (.string (numText n)) ∧ Below w.heap.size w w' := by
  rw [text_own h ho]
  obtain ⟨h1, h2, h3⟩ := bad_parts h
  clear h
  have ew : IntKind.i32.wrap n = n := IntWalk.i32_in n (by omega)
  have d1 : decide (n ≤ 0) = false := decide_eq_false (by omega)
  have d2 : decide (1114111 < n) = false := decide_eq_false (by omega)
  rcases ho with ho | ho <;> rcases h3 with h3 | h3
  all_goals try (exfalso; omega)
  all_goals
    go_enter Try.func15, Try.ntmps15
    go_wp2
    go_ret
    exact ⟨rfl, Below.refl _ _⟩

theorem ev_def : (E.map (Value.int .i32)).toArray = EV := rfl
set_option maxHeartbeats 400000 in
set_option maxRecDepth 100000 in
theorem ref_old (n : Int) (h : badN n = false) (ho : 128 ≤ n ∧ n < 160) (w : World) :
    Calls Try.prog 15 #[.int .i64 n] w fun e w' => e = .returned (.string (numText n)) ∧ Below w.heap.size w w' := by
  obtain ⟨h1, h2, h3⟩ := bad_parts h
  have e0 := @text_old0 n h ho
  have e1 := @text_old1 n h ho
  clear h
  have ew : IntKind.i32.wrap n = n := IntWalk.i32_in n (by omega)
  have d1 : decide (n ≤ 0) = false := decide_eq_false (by omega)
  have d2 : decide (1114111 < n) = false := decide_eq_false (by omega)
  have d3 : decide (55296 ≤ n) = false := decide_eq_false (by omega)
  obtain ⟨j, hj, rfl⟩ : ∃ j : Nat, j < 32 ∧ n = (j : Int) + 128 := ⟨(n - 128).toNat, by omega, by omega⟩
  have hv := ev_get j hj
  rw [show ((j : Int) + 128 - 128).toNat = j by omega] at e0 e1
  obtain ⟨v, hx⟩ : ∃ v, E.getD j 0 = v := ⟨_, rfl⟩
  rw [hx] at e0 e1 hv
  have E0 := hide e0
  have E1 := hide e1
  clear e0 e1 hx
  have j1 : (0 : Int) ≤ j := by omega
  have j2 : (j : Int) < 32 := by omega
  have d4 : decide ((j : Int) + 128 ≤ 159) = true := decide_eq_true (by omega)
  by_cases hz : v = 0
  · subst hz
    rw [E0.out rfl]
    clear E0 E1
    go_enter Try.func15, Try.ntmps15
    go_wp2_with (refine wpList_buildFlat rfl 34 21 32 _ rfl .i32 E Try.underlying34 (by kernel_rfl) (by kernel_rfl) rfl (by decide) (by decide) (by kernel_rfl) ?_; rw [ev_def])
    go_ret
    exact ⟨rfl, below_alloc (Below.refl _ _) _⟩
  · rw [E1.out hz]
    clear E0 E1
    have hz1 : (v == 0) = false := beq_eq_false_iff_ne.2 hz
    have hz2 : (v != 0) = true := bne_iff_ne.2 hz
    clear hz
    go_enter Try.func15, Try.ntmps15
    go_wp2_with (refine wpList_buildFlat rfl 34 21 32 _ rfl .i32 E Try.underlying34 (by kernel_rfl) (by kernel_rfl) rfl (by decide) (by decide) (by kernel_rfl) ?_; rw [ev_def])
    go_ret
    exact ⟨rfl, below_alloc (Below.refl _ _) _⟩

theorem ref_any (n : Int) (w : World) :
    Calls Try.prog 15 #[.int .i64 n] w fun e w' => e = .returned (.string (numText n)) ∧ Below w.heap.size w w' := by
  cases h : badN n
  · by_cases ho : 128 ≤ n ∧ n < 160
    · exact ref_old n h ho w
    · exact ref_own n h (by omega) w
  · exact ref_bad n h w
end Go.Proofs.Ytjmaiihgjghgjaa.RefsNumber
