/- The walk of arbourlaw5.RefsRunes: for every number the law returns true, and nothing that was there has turned. No condition. -/
import Derived.Test.YtjmaiihgjghgjaaRefsTellsWalk
import Derived.Test.YtjmaiihgjghgjaaRefsRune
namespace Go.Proofs.Ytjmaiihgjghgjaa.RefsRunesLaw
open Go.RowKit Go.Proofs.Ytjmaiihgjghgjaa.PRefsLongest Go.Proofs.Ytjmaiihgjghgjaa.Pure Go.Proofs.Ytjmaiihgjghgjaa.RefsNumber Go.Proofs.Ytjmaiihgjghgjaa.RefsRune Go.Proofs.Ytjmaiihgjghgjaa.RefsTellsLaw Go.Proofs.YtjmaiihgjghgjaaW.PrintWords Go.Proofs.YtjmaiihgjghgjaaW.PrintLast

/-- '[]rune(s)' at the text of one rune. -/
theorem to_runes (r : Int) (s : ByteArray) (hs : s = Utf8.encode r) (hv : Utf8.valid r = true) : ∃ (cap : World → Nat) (C : World → Array Value), (∀ w, (C w)[0]? = some (.int .i32 r)) ∧
    ∀ w, (convert 9 34 (.string s)).run Try.prog w = .ok (.slice (some ⟨w.heap.size, 0, none⟩) 1 (cap w)) (w.drew.alloc (.cells (C w) 21)) := by
  have h1 := runes_one r hv
  rw [← hs] at h1
  refine ⟨fun w => grownCap w 1 0 21, fun w => #[.int .i32 r] ++ Array.replicate (grownCap w 1 0 21 - 1) (.int .i32 0), fun w => by rw [Array.getElem?_append_left (by simp)]; rfl, fun w => ?_⟩
  have := run_runes_of_string (P := Try.prog) w 9 34 21 s Try.underlying9 Try.underlying34 Try.underlying21 (by rw [h1]; show 1 ≤ _; omega)
  rw [h1] at this
  exact this
/-- 'string(l)' at one rune. -/
theorem from_runes (r : Int) (s : ByteArray) (hs : s = Utf8.encode r) (w : World) (a : Addr) (cap : Nat) (hc : w.cell? a = some (.int .i32 r)) :
    (convert 34 9 (.slice (some a) 1 cap)).run Try.prog w = .ok (.string s) w := by
  rw [run_convert_runes (P := Try.prog) w 34 9 21 a 1 cap [r] (by simp) Try.underlying34 Try.underlying21 Try.underlying9 (fun j hj => by
    have : j = 0 := by simpa using hj
    subst this
    simpa [Addr.add] using hc)]
  rw [hs]
  rfl

set_option maxHeartbeats 1000000 in
set_option maxRecDepth 100000 in
theorem law (n : Int) (w : World) (hn : (Lit.int .i64 n).wf = true) :
    Calls Try.prog 5 #[.int .i64 n] w fun e w' => e = .returned (.bool true) ∧ Below w.heap.size w w' := by
  obtain ⟨t, ht0, ht, hw⟩ := within_gen n 1114112 (by omega) (by omega)
  obtain ⟨b1, b2⟩ := bounds_i64 hn
  have HW := hide hw
  clear hw hn
  go_enter Try.func5, Try.ntmps5
  go_wp2_with (go_at_call 8; (with_reducible refine (arbourbook_Within.calls n 0 1114112 t _ HW.out).mono ?_); rintro e w' ⟨rfl, ⟨nd, rfl⟩⟩; dsimp only)
  have hb0 : Below (w.heap.size + 1) ((w.drewN nd).alloc (.cells #[.int .i64 n, .int .i64 t] 3)) ((w.drewN nd).alloc (.cells #[.int .i64 n, .int .i64 t] 3)) := Below.refl _ _
  have HB0 := hide hb0
  clear hb0
  go_loopw [12] (fun i wr => ∃ k : Nat, k ≤ 2 ∧ i = .int .i64 k ∧ Aside0 (Below (w.heap.size + 1) ((w.drewN nd).alloc (.cells #[.int .i64 n, .int .i64 t] 3)) wr)) (fun i _ => 2 - (intOf i).toNat)
  case atStart => exact ⟨0, by omega, rfl, ⟨HB0.out⟩⟩
  case round =>
    clear HB0 HW
    obtain ⟨k, hk, rfl, HB⟩ := hrel
    by_cases hlt : k < 2
    · have hc : wr.cell? ⟨w.heap.size, k, none⟩ = some (.int .i64 (if k = 0 then n else t)) := by
        rw [HB.out.cell (p := ⟨w.heap.size, k, none⟩) (Nat.lt_succ_self _)]
        show ((w.drewN nd).alloc (.cells #[.int .i64 n, .int .i64 t] 3)).cell? ⟨(w.drewN nd).heap.size, k, none⟩ = _
        rw [cell_of_row _ _ k _ 3 (0, 0) (heap_alloc_new _ _)]
        rcases (show k = 0 ∨ k = 1 by omega) with rfl | rfl <;> rfl
      have hx1 : -9223372036854775808 ≤ (if k = 0 then n else t) := by split <;> omega
      have hx2 : (if k = 0 then n else t) ≤ 9223372036854775807 := by split <;> omega
      generalize (if k = 0 then n else t) = x at hc hx1 hx2
      clear b1 b2 ht0 ht
      obtain ⟨r, hr, hv, r0, r1, r2, r3⟩ := text_rune x
      obtain ⟨s, hs⟩ : ∃ s, Utf8.encode r = s := ⟨_, rfl⟩
      obtain ⟨cap, C, hC, hto⟩ := to_runes r s hs.symm hv
      have hfrom := from_runes r s hs.symm
      rw [hs] at hr
      have HR := hide hr
      clear hr hs hv
      have HC := hide hC
      clear hC
      have kb : (k : Int) < 2 := by omega
      have hparts : (x < 32 ∧ decide (32 ≤ x) = false ∧ decide (160 ≤ x) = false) ∨ (decide (32 ≤ x) = true ∧ decide (x < 127) = true ∧ decide (160 ≤ x) = false ∧ r = x) ∨ (decide (32 ≤ x) = true ∧ decide (x < 127) = false ∧ decide (160 ≤ x) = false) ∨
          (decide (32 ≤ x) = true ∧ decide (x < 127) = false ∧ decide (160 ≤ x) = true ∧ decide (x < 55296) = true ∧ r = x) ∨ (decide (32 ≤ x) = true ∧ decide (x < 127) = false ∧ decide (160 ≤ x) = true ∧ decide (x < 55296) = false) := by
        simp only [decide_eq_true_eq, decide_eq_false_iff_not]
        omega
      have hsur : decide (55296 ≤ r) = false ∨ (decide (55296 ≤ r) = true ∧ decide (r ≤ 57343) = false) := by
        simp only [decide_eq_true_eq, decide_eq_false_iff_not]
        omega
      clear r2 r3
      rcases hparts with ⟨_, g1, g2⟩ | ⟨g1, g2, g3, rfl⟩ | ⟨g1, g2, g3⟩ | ⟨g1, g2, g3, g4, rfl⟩ | ⟨g1, g2, g3, g4⟩ <;> rcases hsur with f1 | ⟨f1, f2⟩
      all_goals
        go_wp2_with (go_at_call 14; (with_reducible refine (number_is _ s HR.out _).mono ?_); rintro e w3 ⟨rfl, hb3⟩; have HB3 := hide hb3; clear hb3; have hC := HC.out w3; dsimp only)
        go_roundw
        case rel =>
          have hle : w.heap.size + 1 ≤ wr.heap.size := by have := HB.out.size; simpa using this
          exact ⟨k + 1, by omega, by go_num, ⟨((HB.out.trans (HB3.out.mono hle)).alloc (Nat.le_trans hle HB3.out.size) _).drew⟩⟩
        case measure => simp only [intOf]; omega
    · have : k = 2 := by omega
      subst this
      go_wp2_with (go_at_call 11; (with_reducible refine (arbourlaw5_known.calls 60 true _ known_some).mono ?_); rintro e w3 ⟨rfl, hb3⟩; have HB3 := hide hb3; clear hb3; dsimp only)
      go_ret
      have h1 : Below w.heap.size w ((w.drewN nd).alloc (.cells #[.int .i64 n, .int .i64 t] 3)) := below_alloc (pw_below_drewN (Below.refl _ _) _) _
      exact ⟨rfl, below_step (h1.trans (HB.out.mono (by omega))) HB3.out⟩
end Go.Proofs.Ytjmaiihgjghgjaa.RefsRunesLaw
