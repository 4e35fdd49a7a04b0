import Derived.Test.YtjmaiihgjghgjaaRefsPlain
import Derived.WalkSpells
import Derived.BigQuiet
import Derived.Deep.QuietTactic
import Derived.Outline
import Derived.Laws.Rows
import Derived.Laws.Tables
import Derived.Deep.WholeRow
import Derived.Below
import Derived.IntWalk
import Derived.WalkLawsBesides
namespace Go.Proofs.Ytjmaiihgjghgjaa.RefsNumber
theorem hide {p : Prop} (h : p) : Go.RowKit.Hid p := h
open Go.RowKit Go.Proofs.Ytjmaiihgjghgjaa.Pure Go.Proofs.YtjmaiihgjghgjaaW.PrintWords Go.Proofs.YtjmaiihgjghgjaaW.PrintLast

def E : List Int := [0x20ac, 0, 0x201a, 0x0192, 0x201e, 0x2026, 0x2020, 0x2021, 0x02c6, 0x2030, 0x0160, 0x2039, 0x0152, 0, 0x017d, 0, 0, 0x2018, 0x2019, 0x201c, 0x201d, 0x2022, 0x2013, 0x2014, 0x02dc, 0x2122, 0x0161, 0x203a, 0x0153, 0, 0x017e, 0x0178]

def EV : Array Value := (E.map (Value.int .i32)).toArray
def EZ : Array Value := Array.replicate 32 (Value.int .i32 0)
theorem info42 : (Try.prog.info? 42).map (·.size) = some 32 := by kernel_rfl

set_option maxHeartbeats 400000 in
set_option maxRecDepth 100000 in
theorem elder (w : World) : Calls Try.prog 21 #[] w fun e w' => e = .returned (.agg EV) ∧ Below w.heap.size w w' := by
  go_enter Try.func21, Try.ntmps21
  go_wp2_with (first | (refine wpList_build rfl 42 _ rfl (by kernel_rfl) ?_) | (refine wpList_store_row rfl 42 (.tmp 0) (.tmp 1) rfl w.heap.size EV rfl ?h1 42 EZ ?h2 info42 rfl (by kernel_rfl) ?_; (case h1 => kernel_rfl); (case h2 => exact heap_alloc_new _ _)))
  rw [World.setRow_alloc_new]
  refine bodyPost_ret (v := .agg EV) (results_cell_row rfl _ _ w.heap.size 42 EV (0, 0) _ rfl (heap_alloc_new _ _) Try.underlying42 rfl info42) rfl ⟨rfl, below_alloc (Below.refl _ _) _⟩

def badN (n : Int) : Bool := decide (n ≤ 0) || decide (1114111 < n) || (decide (55296 ≤ n) && decide (n ≤ 57343))
def elderOf (n : Int) : Int := if 128 ≤ n ∧ n < 160 then (if E.getD (n - 128).toNat 0 = 0 then n else E.getD (n - 128).toNat 0) else n
def numText (n : Int) : ByteArray := if badN n = true then ⟨#[239, 191, 189]⟩ else Utf8.encode (elderOf n)
theorem ev_get (j : Nat) (hj : j < 32) : EV[j]? = some (.int .i32 (E.getD j 0)) := by
  unfold EV
  rw [List.getElem?_toArray, List.getElem?_map, List.getElem?_eq_getElem (by simpa [E] using hj)]
  simp [List.getD_eq_getElem?_getD, List.getElem?_eq_getElem (show j < E.length by simpa [E] using hj)]

theorem bad_parts {n : Int} (h : badN n = false) : 0 < n ∧ n ≤ 1114111 ∧ (n < 55296 ∨ 57343 < n) := by
  unfold badN at h
  simp only [Bool.or_eq_false_iff, Bool.and_eq_false_iff, decide_eq_false_iff_not] at h
  omega
theorem bad_yes {n : Int} (h : badN n = true) : n ≤ 0 ∨ (0 < n ∧ 1114111 < n) ∨ (0 < n ∧ n ≤ 1114111 ∧ 55296 ≤ n ∧ n ≤ 57343) := by
  unfold badN at h
  simp only [Bool.or_eq_true, Bool.and_eq_true, decide_eq_true_eq] at h
  omega
theorem text_bad {n : Int} (h : badN n = true) : numText n = ⟨#[239, 191, 189]⟩ := by unfold numText; rw [if_pos h]
theorem text_own {n : Int} (h : badN n = false) (h1 : n < 128 ∨ 160 ≤ n) : numText n = Utf8.encode n := by
  unfold numText elderOf
  rw [if_neg (by rw [h]; decide), if_neg (by omega)]
theorem text_old0 {n : Int} (h : badN n = false) (h1 : 128 ≤ n ∧ n < 160) (h0 : E.getD (n - 128).toNat 0 = 0) : numText n = Utf8.encode n := by
  unfold numText elderOf
  rw [if_neg (by rw [h]; decide), if_pos h1, if_pos h0]
theorem text_old1 {n : Int} (h : badN n = false) (h1 : 128 ≤ n ∧ n < 160) (h0 : E.getD (n - 128).toNat 0 ≠ 0) : numText n = Utf8.encode (E.getD (n - 128).toNat 0) := by
  unfold numText elderOf
  rw [if_neg (by rw [h]; decide), if_pos h1, if_neg h0]

set_option maxHeartbeats 400000 in
set_option maxRecDepth 100000 in
theorem number_bad (n : Int) (h : badN n = true) (w : World) :
    Calls Try.prog 14 #[.int .i64 n] w fun e w' => e = .returned (.string (numText n)) ∧ Below w.heap.size w w' := by
  rw [text_bad h]
  have hb := bad_yes h
  clear h
  rcases hb with h | ⟨h1, h2⟩ | ⟨h1, h2, h3, h4⟩
  all_goals
    go_enter Try.func14, Try.ntmps14
    go_wp2
    go_ret
    exact ⟨rfl, Below.refl _ _⟩

set_option maxHeartbeats 400000 in
set_option maxRecDepth 100000 in
theorem number_own (n : Int) (h : badN n = false) (ho : n < 128 ∨ 160 ≤ n) (w : World) :
    Calls Try.prog 14 #[.int .i64 n] w fun e w' => e = .returned (.string (numText n)) ∧ Below w.heap.size w w' := by
  rw [text_own h ho]
  obtain ⟨h1, h2, h3⟩ := bad_parts h
  clear h
  have ew : IntKind.i32.wrap n = n := IntWalk.i32_in n (by omega)
  have d1 : decide (n ≤ 0) = false := decide_eq_false (by omega)
  have d2 : decide (1114111 < n) = false := decide_eq_false (by omega)
  rcases ho with ho | ho <;> rcases h3 with h3 | h3
  all_goals try (exfalso; omega)
  all_goals
    go_enter Try.func14, Try.ntmps14
    go_wp2_with (first | (go_at_call 21; refine (elder _).mono ?_; rintro e w1 ⟨rfl, hb1⟩) | (refine wpList_store_row rfl 42 (.tmp 3) (.tmp 18) rfl w1.heap.size EV rfl rfl 42 EZ ?h2 info42 rfl (by kernel_rfl) ?_; (case h2 => exact heap_alloc_new _ _); rw [World.setRow_alloc_new]))
    go_ret
    exact ⟨rfl, below_alloc hb1 _⟩

set_option maxHeartbeats 400000 in
set_option maxRecDepth 100000 in
theorem number_old (n : Int) (h : badN n = false) (ho : 128 ≤ n ∧ n < 160) (w : World) :
    Calls Try.prog 14 #[.int .i64 n] w fun e w' => e = .returned (.string (numText n)) ∧ Below w.heap.size w w' := by
  obtain ⟨h1, h2, h3⟩ := bad_parts h
  have e0 := @text_old0 n h ho
  have e1 := @text_old1 n h ho
  clear h
  have ew : IntKind.i32.wrap n = n := IntWalk.i32_in n (by omega)
  have d1 : decide (n ≤ 0) = false := decide_eq_false (by omega)
  have d2 : decide (1114111 < n) = false := decide_eq_false (by omega)
  have d3 : decide (55296 ≤ n) = false := decide_eq_false (by omega)
  obtain ⟨j, hj, rfl⟩ : ∃ j : Nat, j < 32 ∧ n = (j : Int) + 128 := ⟨(n - 128).toNat, by omega, by omega⟩
  have hv := ev_get j hj
  rw [show ((j : Int) + 128 - 128).toNat = j by omega] at e0 e1
  obtain ⟨v, hx⟩ : ∃ v, E.getD j 0 = v := ⟨_, rfl⟩
  rw [hx] at e0 e1 hv
  have E0 := hide e0
  have E1 := hide e1
  clear e0 e1 hx
  have j1 : (0 : Int) ≤ j := by omega
  have j2 : (j : Int) < 32 := by omega
  by_cases hz : v = 0
  · subst hz
    rw [E0.out rfl]
    clear E0 E1
    go_enter Try.func14, Try.ntmps14
    go_wp2_with (first | (go_at_call 21; refine (elder _).mono ?_; rintro e w1 ⟨rfl, hb1⟩) | (refine wpList_store_row rfl 42 (.tmp 3) (.tmp 18) rfl w1.heap.size EV rfl rfl 42 EZ ?h2 info42 rfl (by kernel_rfl) ?_; (case h2 => exact heap_alloc_new _ _); rw [World.setRow_alloc_new]))
    go_ret
    exact ⟨rfl, below_alloc hb1 _⟩
  · rw [E1.out hz]
    clear E0 E1
    have hz1 : (v == 0) = false := beq_eq_false_iff_ne.2 hz
    have hz2 : (v != 0) = true := bne_iff_ne.2 hz
    clear hz
    go_enter Try.func14, Try.ntmps14
    go_wp2_with (first | (go_at_call 21; refine (elder _).mono ?_; rintro e w1 ⟨rfl, hb1⟩) | (refine wpList_store_row rfl 42 (.tmp 3) (.tmp 18) rfl w1.heap.size EV rfl rfl 42 EZ ?h2 info42 rfl (by kernel_rfl) ?_; (case h2 => exact heap_alloc_new _ _); rw [World.setRow_alloc_new]))
    go_ret
    exact ⟨rfl, below_alloc hb1 _⟩

theorem number_any (n : Int) (w : World) :
    Calls Try.prog 14 #[.int .i64 n] w fun e w' => e = .returned (.string (numText n)) ∧ Below w.heap.size w w' := by
  cases h : badN n
  · by_cases ho : 128 ≤ n ∧ n < 160
    · exact number_old n h ho w
    · exact number_own n h (by omega) w
  · exact number_bad n h w
end Go.Proofs.Ytjmaiihgjghgjaa.RefsNumber
