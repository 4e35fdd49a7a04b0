/- The walk of arbourref14.alone: whether the fields of a node that it does not have are zero. -/
import Derived.Test.YtaponaemgolmoaaTrRight
import Derived.Test.YtaponaemgolmoaaTrB
import Derived.Deep.QuietTactic
import Derived.BigQuiet
import Derived.Deep.RegionHeld3
namespace Go.Proofs.Ytaponaemgolmoaa.Tr
open Go.RowKit Go.Proofs.Ytaponaemgolmoaa.PTreeTells Go.Proofs.YtaponaemgolmoaaW.PrintWords Go.Proofs.YtaponaemgolmoaaW.PrintLast
set_option linter.unusedVariables false
set_option linter.unusedSimpArgs false
theorem wrap_nat (i : Nat) (h : i < 1000000000) : wrap64 ((i : Int) + 1) = ((i + 1 : Nat) : Int) := by unfold wrap64; omega


theorem has_loop (xs : List S33) (nm : ByteArray) (hx : xs.length < 1000000) : ∀ (d k i : Nat), i ≤ xs.length → xs.length - i = d → d < k → arbourref7_Has.l0 k xs nm (i : Int) = some (fndFrom nm (xs.drop i) i) := by
  intro d
  induction d with
  | zero =>
    intro k i hi hd hk
    obtain ⟨k, rfl⟩ : ∃ m, k = m + 1 := ⟨k - 1, by omega⟩
    simp only [arbourref7_Has.l0]
    rw [if_neg (by omega), fnd_end nm xs i (by omega)]
  | succ d ih =>
    intro k i hi hd hk
    obtain ⟨k, rfl⟩ : ∃ m, k = m + 1 := ⟨k - 1, by omega⟩
    have e1 : rd_T33 xs (i : Int) = xs.getD i z33 := by unfold rd_T33; rw [Int.toNat_natCast]
    simp only [arbourref7_Has.l0]
    rw [if_pos (by omega), if_pos (by omega), wrap_nat i (by omega), e1, fnd_step nm xs i (by omega)]
    by_cases h : (xs.getD i z33).f0.toList = nm.toList
    · rw [if_pos h, if_pos (by unfold hit; rw [beq_iff_eq]; exact h)]
    · rw [if_neg h, if_neg (by unfold hit; rw [beq_iff_eq]; exact h)]
      exact ih k (i + 1) (by omega) (by omega) (by omega)
theorem has_some (xs : List S33) (nm : ByteArray) (hx : xs.length < 1000000) (k : Nat) (hk : xs.length < k) : arbourref7_Has.f k xs nm = some (fnd xs nm) := by
  unfold arbourref7_Has.f fnd
  have := has_loop xs nm hx xs.length k 0 (by omega) (by omega) hk
  rw [List.drop_zero] at this
  exact this
theorem add_some (xs : List S33) (a b : ByteArray) (hx : xs.length < 1000000) (k : Nat) (hk : xs.length < k) : arbourref7_Add.f k xs a b = some (addL xs ⟨a, b⟩) := by
  unfold arbourref7_Add.f addL
  simp only [Option.bind_some, List.length_nil, List.nil_append]
  rw [if_pos (by omega), has_some xs a hx k hk]
  simp only [Option.bind_some]
  split
  · rw [if_pos (by omega)]
  · rfl
theorem more_loop (ys : List S33) : ∀ (d k i : Nat) (xs : List S33), i ≤ ys.length → ys.length - i = d → xs.length + d < 1000000 → ys.length < 1000000 → xs.length + 2 * d + 2 < k → arbourref7_More.l0 k ys xs (i : Int) = some (moreL xs (ys.drop i)) := by
  intro d
  induction d with
  | zero =>
    intro k i xs hi hd hx hy hk
    obtain ⟨k, rfl⟩ : ∃ m, k = m + 1 := ⟨k - 1, by omega⟩
    simp only [arbourref7_More.l0]
    rw [if_neg (by omega), List.drop_of_length_le (by omega)]
    rfl
  | succ d ih =>
    intro k i xs hi hd hx hy hk
    obtain ⟨k, rfl⟩ : ∃ m, k = m + 1 := ⟨k - 1, by omega⟩
    have e1 : rd_T33 ys (i : Int) = ys.getD i z33 := by unfold rd_T33; rw [Int.toNat_natCast]
    have hlt : i < ys.length := by omega
    have e2 : ys.drop i = ys.getD i z33 :: ys.drop (i + 1) := by rw [List.drop_eq_getElem_cons hlt, List.getD_eq_getElem?_getD, List.getElem?_eq_getElem hlt]; rfl
    simp only [arbourref7_More.l0]
    rw [if_pos (by omega), if_pos (by omega), wrap_nat i (by omega), e1, add_some xs _ _ (by omega) k (by omega)]
    simp only [Option.bind_some]
    have hl := addL_len xs (ys.getD i z33)
    rw [e2]
    exact ih k (i + 1) (addL xs (ys.getD i z33)) (by omega) (by omega) (by omega) hy (by omega)
theorem more_some (xs ys : List S33) (hx : xs.length + ys.length < 1000000) (k : Nat) (hk : xs.length + 2 * ys.length + 2 < k) : arbourref7_More.f k xs ys = some (moreL xs ys) := by
  unfold arbourref7_More.f
  simp only [Option.bind_some, List.length_nil, List.nil_append]
  rw [if_pos (by omega)]
  have := more_loop ys ys.length k 0 xs (by omega) (by omega) (by omega) (by omega) hk
  rw [List.drop_zero] at this
  exact this
theorem unique_some (xs : List S33) (hx : xs.length < 1000000) (k : Nat) (hk : 2 * xs.length + 2 < k) : arbourref7_Unique.f k xs = some (moreL [] xs) := by
  unfold arbourref7_Unique.f
  rw [more_some [] xs (by simpa using hx) k (by simpa using hk)]
  rfl
set_option maxHeartbeats 8000000 in
set_option maxRecDepth 100000 in
theorem alone (x : S26) (A3 : Option Addr) (c3 : Nat) (A5 : Option Addr) (c5 : Nat) (w : World) (l3 : x.f3.length ≤ c3) (g3 : k33.C w A3 x.f3.length x.f3) (m5 : x.f5.length ≤ 9223372036854775807) (hn : x.f3.length < 1000000) :
    Calls Try.prog 79 #[.agg #[.int .i64 x.f0, .int .i64 x.f1, .string x.f2, .slice A3 x.f3.length c3, .string x.f4, .slice A5 x.f5.length c5]] w fun e w' => e = .returned (.bool (fieldsB x)) ∧ Below w.heap.size w w' := by
  have hX := heap_alloc_new w (.cells #[.int .i64 x.f0, .int .i64 x.f1, .string x.f2, .slice A3 x.f3.length c3, .string x.f4, .slice A5 x.f5.length c5] 26)
  have b1 := below_alloc (Below.refl w.heap.size w) (.cells #[.int .i64 x.f0, .int .i64 x.f1, .string x.f2, .slice A3 x.f3.length c3, .string x.f4, .slice A5 x.f5.length c5] 26)
  obtain ⟨w1, hw1⟩ : ∃ y, w.alloc (.cells #[.int .i64 x.f0, .int .i64 x.f1, .string x.f2, .slice A3 x.f3.length c3, .string x.f4, .slice A5 x.f5.length c5] 26) = y := ⟨_, rfl⟩
  rw [hw1] at hX b1
  have HB := hide b1
  have HW1 := hide hw1
  have hm3 := g3.2.1
  have HU := hide (fun W (h : Below w1.heap.size w1 W) => arbourref7_Unique.calls (2 * x.f3.length + 3) A3 c3 x.f3 (moreL [] x.f3) W (Kd.C_below (Kd.C_below g3 b1) h) l3 (unique_some x.f3 hn _ (by omega)))
  have HML := hide (moreL_len [] x.f3)
  have h0 := cell_of_row _ _ 0 _ _ _ hX
  have h1 := cell_of_row _ _ 1 _ _ _ hX
  have h2 := cell_of_row _ _ 2 _ _ _ hX
  have h3 := cell_of_row _ _ 3 _ _ _ hX
  have h4 := cell_of_row _ _ 4 _ _ _ hX
  have h5 := cell_of_row _ _ 5 _ _ _ hX
  unfold fieldsB
  obtain ⟨x0, x1, x2, x3, x4, x5⟩ := x
  dsimp only at *
  obtain ⟨n3, hn3⟩ : ∃ n : Nat, x3.length = n := ⟨_, rfl⟩
  obtain ⟨n5, hn5⟩ : ∃ n : Nat, x5.length = n := ⟨_, rfl⟩
  obtain ⟨ml, hml⟩ : ∃ l, moreL [] x3 = l := ⟨_, rfl⟩
  rw [hml] at HU HML ⊢
  rw [hn3] at HU h3 HML hm3 HW1 hn ⊢
  rw [hn5] at h5 HW1 m5 ⊢
  have HC := hide (fun W (h : Below w1.heap.size w1 W) => (⟨cellW h0 h, cellW h1 h, cellW h2 h, cellW h3 h, cellW h4 h⟩ : W.cell? ⟨w.heap.size, 0, none⟩ = some (.int .i64 x0) ∧ W.cell? ⟨w.heap.size, 1, none⟩ = some (.int .i64 x1) ∧ W.cell? ⟨w.heap.size, 2, none⟩ = some (.string x2) ∧ W.cell? ⟨w.heap.size, 3, none⟩ = some (.slice A3 n3 c3) ∧ W.cell? ⟨w.heap.size, 4, none⟩ = some (.string x4)))
  clear g3 l3 hn3 hn5 hml hX b1 hw1
  cases k3 : (x0 == 3) with
  | true =>
    cases e11 : (x1 == 1) with
    | true =>
      cases e12 : (x2.toList == []) with
      | true =>
        go_enter Try.func79, Try.ntmps79
        go_upto_region 1 with fail
        rw [HW1.out]
        go_upto_region 3 with fail
        first | go_quiet (fail) | fail
        go_wp2_with fail
        go_ret
        exact ⟨by first | rfl | simp, by first | exact pw_below_drewN HB.out _ | exact HB.out.drew | exact HB.out⟩
      | false =>
        cases e14 : (x4.toList == []) with
        | false =>
          go_enter Try.func79, Try.ntmps79
          go_upto_region 1 with fail
          rw [HW1.out]
          go_upto_region 3 with fail
          first | go_quiet (fail) | fail
          go_wp2_with fail
          go_ret
          exact ⟨by first | rfl | simp, by first | exact pw_below_drewN HB.out _ | exact HB.out.drew | exact HB.out⟩
        | true =>
          go_enter Try.func79, Try.ntmps79
          go_upto_region 1 with fail
          rw [HW1.out]
          go_upto_region 3 with fail
          refine wp_region_held_drew (S := fun W => W.cell? ⟨w.heap.size, 0, none⟩ = some (.int .i64 x0) ∧ W.cell? ⟨w.heap.size, 1, none⟩ = some (.int .i64 x1) ∧ W.cell? ⟨w.heap.size, 2, none⟩ = some (.string x2) ∧ W.cell? ⟨w.heap.size, 3, none⟩ = some (.slice A3 n3 c3) ∧ W.cell? ⟨w.heap.size, 4, none⟩ = some (.string x4)) (by kernel_rfl) (HC.out _ (Below.drew (Below.refl _ _))) (fun hHeld => ?_)
          refine wpAnyH_take (i := 0) (oi := ?o0x1) (v := ?v0x1) ?ho0x1 (by kernel_rfl) (by kernel_rfl) (by kernel_rfl) ?hQ0x1 (Or.inl ⟨?hw0x1, ?hy0x1⟩) (by assumption) ?_
          case ho0x1 => (simp only [List.getElem?_toArray, List.getElem?_cons_succ, List.getElem?_cons_zero]; try rfl)
          case hQ0x1 => exact fun _ _ _ h => h
          case hw0x1 => rfl
          case hy0x1 => (intro w hSw; (try dsimp only at hSw); go_simp; (first | done | (with_reducible rfl)))
          (try simp only [Act.put, List.setIfInBounds_toArray, List.set_cons_zero, List.set_cons_succ])
          refine wpAnyH_take (i := 1) (oi := ?o1x2) (v := ?v1x2) ?ho1x2 (by kernel_rfl) (by kernel_rfl) (by kernel_rfl) ?hQ1x2 (Or.inl ⟨?hw1x2, ?hy1x2⟩) (by assumption) ?_
          case ho1x2 => (simp only [List.getElem?_toArray, List.getElem?_cons_succ, List.getElem?_cons_zero]; try rfl)
          case hQ1x2 => exact fun _ _ _ h => h
          case hw1x2 => rfl
          case hy1x2 => (intro w hSw; (try dsimp only at hSw); go_simp; (first | done | (with_reducible rfl)))
          (try simp only [Act.put, List.setIfInBounds_toArray, List.set_cons_zero, List.set_cons_succ])
          refine wpAnyH_take (i := 2) (oi := ?o2x3) (v := ?v2x3) ?ho2x3 (by kernel_rfl) (by kernel_rfl) (by kernel_rfl) ?hQ2x3 (Or.inl ⟨?hw2x3, ?hy2x3⟩) (by assumption) ?_
          case ho2x3 => (simp only [List.getElem?_toArray, List.getElem?_cons_succ, List.getElem?_cons_zero]; try rfl)
          case hQ2x3 => exact fun _ _ _ h => h
          case hw2x3 => rfl
          case hy2x3 => (intro w hSw; (try dsimp only at hSw); go_simp; (first | done | (with_reducible rfl)))
          (try simp only [Act.put, List.setIfInBounds_toArray, List.set_cons_zero, List.set_cons_succ])
          refine wpAnyH_take (i := 3) (oi := ?o3x4) (v := ?v3x4) ?ho3x4 (by kernel_rfl) (by kernel_rfl) (by kernel_rfl) ?hQ3x4 (Or.inl ⟨?hw3x4, ?hy3x4⟩) (by assumption) ?_
          case ho3x4 => (simp only [List.getElem?_toArray, List.getElem?_cons_succ, List.getElem?_cons_zero]; try rfl)
          case hQ3x4 => exact fun _ _ _ h => h
          case hw3x4 => rfl
          case hy3x4 => (intro w hSw; (try dsimp only at hSw); go_simp; (first | done | (with_reducible rfl)))
          (try simp only [Act.put, List.setIfInBounds_toArray, List.set_cons_zero, List.set_cons_succ])
          refine wpAnyH_ready (rs := [4]) (by kernel_rfl) (by simp) ?_
          refine (AllReadyH.cons (i := 4) (o := ?o4y5) ?ho4y5 (fun K hK => ?_) AllReadyH.nil)
          case ho4y5 => (simp only [List.getElem?_toArray, List.getElem?_cons_succ, List.getElem?_cons_zero]; try rfl)
          go_simp
          refine hK.out _ _ (by assumption) (fun _ => ?_)
          clear hK K
          (try simp only [Act.put, List.setIfInBounds_toArray, List.set_cons_zero, List.set_cons_succ])
          refine wpAnyH_ready (rs := [5]) (by kernel_rfl) (by simp) ?_
          refine (AllReadyH.cons (i := 5) (o := ?o5y6) ?ho5y6 (fun K hK => ?_) AllReadyH.nil)
          case ho5y6 => (simp only [List.getElem?_toArray, List.getElem?_cons_succ, List.getElem?_cons_zero]; try rfl)
          go_simp
          refine hK.out _ _ (by assumption) (fun _ => ?_)
          clear hK K
          (try simp only [Act.put, List.setIfInBounds_toArray, List.set_cons_zero, List.set_cons_succ])
          refine wpAnyH_ready (rs := [6]) (by kernel_rfl) (by simp) ?_
          refine (AllReadyH.cons (i := 6) (o := ?o6y7) ?ho6y7 (fun K hK => ?_) AllReadyH.nil)
          case ho6y7 => (simp only [List.getElem?_toArray, List.getElem?_cons_succ, List.getElem?_cons_zero]; try rfl)
          go_simp
          refine hK.out _ _ (by assumption) (fun _ => ?_)
          clear hK K
          (try simp only [Act.put, List.setIfInBounds_toArray, List.set_cons_zero, List.set_cons_succ])
          refine wpAnyH_take (i := 7) (oi := ?o7x8) (v := ?v7x8) ?ho7x8 (by kernel_rfl) (by kernel_rfl) (by kernel_rfl) ?hQ7x8 (Or.inl ⟨?hw7x8, ?hy7x8⟩) (by assumption) ?_
          case ho7x8 => (simp only [List.getElem?_toArray, List.getElem?_cons_succ, List.getElem?_cons_zero]; try rfl)
          case hQ7x8 => exact fun _ _ _ h => h
          case hw7x8 => rfl
          case hy7x8 => (intro w hSw; (try dsimp only at hSw); go_simp; (first | done | (with_reducible rfl)))
          (try simp only [Act.put, List.setIfInBounds_toArray, List.set_cons_zero, List.set_cons_succ])
          refine wpAnyH_take (i := 8) (oi := ?o8x9) (v := ?v8x9) ?ho8x9 (by kernel_rfl) (by kernel_rfl) (by kernel_rfl) ?hQ8x9 (Or.inl ⟨?hw8x9, ?hy8x9⟩) (by assumption) ?_
          case ho8x9 => (simp only [List.getElem?_toArray, List.getElem?_cons_succ, List.getElem?_cons_zero]; try rfl)
          case hQ8x9 => exact fun _ _ _ h => h
          case hw8x9 => rfl
          case hy8x9 => (intro w hSw; (try dsimp only at hSw); go_simp; (first | done | (with_reducible rfl)))
          (try simp only [Act.put, List.setIfInBounds_toArray, List.set_cons_zero, List.set_cons_succ])
          refine wpAnyH_take (i := 9) (oi := ?o9x10) (v := ?v9x10) ?ho9x10 (by kernel_rfl) (by kernel_rfl) (by kernel_rfl) ?hQ9x10 (Or.inl ⟨?hw9x10, ?hy9x10⟩) (by assumption) ?_
          case ho9x10 => (simp only [List.getElem?_toArray, List.getElem?_cons_succ, List.getElem?_cons_zero]; try rfl)
          case hQ9x10 => exact fun _ _ _ h => h
          case hw9x10 => rfl
          case hy9x10 => (intro w hSw; (try dsimp only at hSw); go_simp; (first | done | (with_reducible rfl)))
          (try simp only [Act.put, List.setIfInBounds_toArray, List.set_cons_zero, List.set_cons_succ])
          refine wpAnyH_take (i := 10) (oi := ?o10x11) (v := ?v10x11) ?ho10x11 (by kernel_rfl) (by kernel_rfl) (by kernel_rfl) ?hQ10x11 (Or.inl ⟨?hw10x11, ?hy10x11⟩) (by assumption) ?_
          case ho10x11 => (simp only [List.getElem?_toArray, List.getElem?_cons_succ, List.getElem?_cons_zero]; try rfl)
          case hQ10x11 => exact fun _ _ _ h => h
          case hw10x11 => rfl
          case hy10x11 => (intro w hSw; (try dsimp only at hSw); go_simp; (first | done | (with_reducible rfl)))
          (try simp only [Act.put, List.setIfInBounds_toArray, List.set_cons_zero, List.set_cons_succ])
          refine wpAnyH_take (i := 11) (oi := ?o11x12) (v := ?v11x12) ?ho11x12 (by kernel_rfl) (by kernel_rfl) (by kernel_rfl) ?hQ11x12 (Or.inl ⟨?hw11x12, ?hy11x12⟩) (by assumption) ?_
          case ho11x12 => (simp only [List.getElem?_toArray, List.getElem?_cons_succ, List.getElem?_cons_zero]; try rfl)
          case hQ11x12 => exact fun _ _ _ h => h
          case hw11x12 => rfl
          case hy11x12 => (intro w hSw; (try dsimp only at hSw); go_simp; (first | done | (with_reducible rfl)))
          (try simp only [Act.put, List.setIfInBounds_toArray, List.set_cons_zero, List.set_cons_succ])
          refine wpAnyH_take (i := 12) (oi := ?o12x13) (v := ?v12x13) ?ho12x13 (by kernel_rfl) (by kernel_rfl) (by kernel_rfl) ?hQ12x13 (Or.inl ⟨?hw12x13, ?hy12x13⟩) (by assumption) ?_
          case ho12x13 => (simp only [List.getElem?_toArray, List.getElem?_cons_succ, List.getElem?_cons_zero]; try rfl)
          case hQ12x13 => exact fun _ _ _ h => h
          case hw12x13 => rfl
          case hy12x13 => (intro w hSw; (try dsimp only at hSw); go_simp; (first | done | (with_reducible rfl)))
          (try simp only [Act.put, List.setIfInBounds_toArray, List.set_cons_zero, List.set_cons_succ])
          refine wpAnyH_take (i := 13) (oi := ?o13x14) (v := ?v13x14) ?ho13x14 (by kernel_rfl) (by kernel_rfl) (by kernel_rfl) ?hQ13x14 (Or.inl ⟨?hw13x14, ?hy13x14⟩) (by assumption) ?_
          case ho13x14 => (simp only [List.getElem?_toArray, List.getElem?_cons_succ, List.getElem?_cons_zero]; try rfl)
          case hQ13x14 => exact fun _ _ _ h => h
          case hw13x14 => rfl
          case hy13x14 => (intro w hSw; (try dsimp only at hSw); go_simp; (first | done | (with_reducible rfl)))
          (try simp only [Act.put, List.setIfInBounds_toArray, List.set_cons_zero, List.set_cons_succ])
          refine wpAnyH_take (i := 14) (oi := ?o14x15) (v := ?v14x15) ?ho14x15 (by kernel_rfl) (by kernel_rfl) (by kernel_rfl) ?hQ14x15 (Or.inl ⟨?hw14x15, ?hy14x15⟩) (by assumption) ?_
          case ho14x15 => (simp only [List.getElem?_toArray, List.getElem?_cons_succ, List.getElem?_cons_zero]; try rfl)
          case hQ14x15 => exact fun _ _ _ h => h
          case hw14x15 => rfl
          case hy14x15 => (intro w hSw; (try dsimp only at hSw); go_simp; (first | done | (with_reducible rfl)))
          (try simp only [Act.put, List.setIfInBounds_toArray, List.set_cons_zero, List.set_cons_succ])
          refine wpAnyH_take (i := 15) (oi := ?o15x16) (v := ?v15x16) ?ho15x16 (by kernel_rfl) (by kernel_rfl) (by kernel_rfl) ?hQ15x16 (Or.inl ⟨?hw15x16, ?hy15x16⟩) (by assumption) ?_
          case ho15x16 => (simp only [List.getElem?_toArray, List.getElem?_cons_succ, List.getElem?_cons_zero]; try rfl)
          case hQ15x16 => exact fun _ _ _ h => h
          case hw15x16 => rfl
          case hy15x16 => (intro w hSw; (try dsimp only at hSw); go_simp; (first | done | (with_reducible rfl)))
          (try simp only [Act.put, List.setIfInBounds_toArray, List.set_cons_zero, List.set_cons_succ])
          refine wpAnyH_take (i := 16) (oi := ?o16x17) (v := ?v16x17) ?ho16x17 (by kernel_rfl) (by kernel_rfl) (by kernel_rfl) ?hQ16x17 (Or.inl ⟨?hw16x17, ?hy16x17⟩) (by assumption) ?_
          case ho16x17 => (simp only [List.getElem?_toArray, List.getElem?_cons_succ, List.getElem?_cons_zero]; try rfl)
          case hQ16x17 => exact fun _ _ _ h => h
          case hw16x17 => rfl
          case hy16x17 => (intro w hSw; (try dsimp only at hSw); go_simp; (first | done | (with_reducible rfl)))
          (try simp only [Act.put, List.setIfInBounds_toArray, List.set_cons_zero, List.set_cons_succ])
          refine wpAnyH_take (i := 17) (oi := ?o17x18) (v := ?v17x18) ?ho17x18 (by kernel_rfl) (by kernel_rfl) (by kernel_rfl) ?hQ17x18 (Or.inl ⟨?hw17x18, ?hy17x18⟩) (by assumption) ?_
          case ho17x18 => (simp only [List.getElem?_toArray, List.getElem?_cons_succ, List.getElem?_cons_zero]; try rfl)
          case hQ17x18 => exact fun _ _ _ h => h
          case hw17x18 => rfl
          case hy17x18 => (intro w hSw; (try dsimp only at hSw); go_simp; (first | done | (with_reducible rfl)))
          (try simp only [Act.put, List.setIfInBounds_toArray, List.set_cons_zero, List.set_cons_succ])
          refine wpAnyH_take (i := 18) (oi := ?o18x19) (v := ?v18x19) ?ho18x19 (by kernel_rfl) (by kernel_rfl) (by kernel_rfl) ?hQ18x19 (Or.inl ⟨?hw18x19, ?hy18x19⟩) (by assumption) ?_
          case ho18x19 => (simp only [List.getElem?_toArray, List.getElem?_cons_succ, List.getElem?_cons_zero]; try rfl)
          case hQ18x19 => exact fun _ _ _ h => h
          case hw18x19 => rfl
          case hy18x19 => (intro w hSw; (try dsimp only at hSw); go_simp; (first | done | (with_reducible rfl)))
          (try simp only [Act.put, List.setIfInBounds_toArray, List.set_cons_zero, List.set_cons_succ])
          refine wpAnyH_take (i := 19) (oi := ?o19x20) (v := ?v19x20) ?ho19x20 (by kernel_rfl) (by kernel_rfl) (by kernel_rfl) ?hQ19x20 (Or.inl ⟨?hw19x20, ?hy19x20⟩) (by assumption) ?_
          case ho19x20 => (simp only [List.getElem?_toArray, List.getElem?_cons_succ, List.getElem?_cons_zero]; try rfl)
          case hQ19x20 => exact fun _ _ _ h => h
          case hw19x20 => rfl
          case hy19x20 => (intro w hSw; (try dsimp only at hSw); go_simp; (first | done | (with_reducible rfl)))
          (try simp only [Act.put, List.setIfInBounds_toArray, List.set_cons_zero, List.set_cons_succ])
          refine wpAnyH_take (i := 20) (oi := ?o20x21) (v := ?v20x21) ?ho20x21 (by kernel_rfl) (by kernel_rfl) (by kernel_rfl) ?hQ20x21 (Or.inl ⟨?hw20x21, ?hy20x21⟩) (by assumption) ?_
          case ho20x21 => (simp only [List.getElem?_toArray, List.getElem?_cons_succ, List.getElem?_cons_zero]; try rfl)
          case hQ20x21 => exact fun _ _ _ h => h
          case hw20x21 => rfl
          case hy20x21 => (intro w hSw; (try dsimp only at hSw); go_simp; (first | done | (with_reducible rfl)))
          (try simp only [Act.put, List.setIfInBounds_toArray, List.set_cons_zero, List.set_cons_succ])
          refine wpAnyH_take (i := 23) (oi := ?o23x22) (v := ?v23x22) ?ho23x22 (by kernel_rfl) (by kernel_rfl) (by kernel_rfl) ?hQ23x22 (Or.inl ⟨?hw23x22, ?hy23x22⟩) (by assumption) ?_
          case ho23x22 => (simp only [List.getElem?_toArray, List.getElem?_cons_succ, List.getElem?_cons_zero]; try rfl)
          case hQ23x22 => exact fun _ _ _ h => h
          case hw23x22 => rfl
          case hy23x22 => (intro w hSw; (try dsimp only at hSw); go_simp; (first | done | (with_reducible rfl)))
          (try simp only [Act.put, List.setIfInBounds_toArray, List.set_cons_zero, List.set_cons_succ])
          refine wpAnyH_take (i := 24) (oi := ?o24x23) (v := ?v24x23) ?ho24x23 (by kernel_rfl) (by kernel_rfl) (by kernel_rfl) ?hQ24x23 (Or.inl ⟨?hw24x23, ?hy24x23⟩) (by assumption) ?_
          case ho24x23 => (simp only [List.getElem?_toArray, List.getElem?_cons_succ, List.getElem?_cons_zero]; try rfl)
          case hQ24x23 => exact fun _ _ _ h => h
          case hw24x23 => rfl
          case hy24x23 => (intro w hSw; (try dsimp only at hSw); go_simp; (first | done | (with_reducible rfl)))
          (try simp only [Act.put, List.setIfInBounds_toArray, List.set_cons_zero, List.set_cons_succ])
          refine wpAnyH_take (i := 25) (oi := ?o25x24) (v := ?v25x24) ?ho25x24 (by kernel_rfl) (by kernel_rfl) (by kernel_rfl) ?hQ25x24 (Or.inl ⟨?hw25x24, ?hy25x24⟩) (by assumption) ?_
          case ho25x24 => (simp only [List.getElem?_toArray, List.getElem?_cons_succ, List.getElem?_cons_zero]; try rfl)
          case hQ25x24 => exact fun _ _ _ h => h
          case hw25x24 => rfl
          case hy25x24 => (intro w hSw; (try dsimp only at hSw); go_simp; (first | done | (with_reducible rfl)))
          (try simp only [Act.put, List.setIfInBounds_toArray, List.set_cons_zero, List.set_cons_succ])
          refine wpAnyH_ready (rs := [21]) (by kernel_rfl) (by simp) ?_
          refine (AllReadyH.cons (i := 21) (o := ?o21y25) ?ho21y25 (fun K hK => ?_) AllReadyH.nil)
          case ho21y25 => (simp only [List.getElem?_toArray, List.getElem?_cons_succ, List.getElem?_cons_zero]; try rfl)
          go_simp
          go_at_call 87
          (with_reducible refine (HU.out _ (Below.drew (Below.refl _ _))).mono ?_)
          rintro e wU ⟨vU, rfl, rU, bU⟩
          have bUU := below_step (Below.drew (Below.refl w1.heap.size w1)) bU
          obtain ⟨AU, cU, rfl, lU, gU⟩ := Kd.R_reads rU
          clear gU lU rU
          refine hK.out _ _ (HC.out _ bUU) (fun _ => ?_)
          clear hK K
          (try simp only [Act.put, List.setIfInBounds_toArray, List.set_cons_zero, List.set_cons_succ])
          refine wpAnyH_take (i := 22) (oi := ?o22x26) (v := ?v22x26) ?ho22x26 (by kernel_rfl) (by kernel_rfl) (by kernel_rfl) ?hQ22x26 (Or.inl ⟨?hw22x26, ?hy22x26⟩) (by assumption) ?_
          case ho22x26 => (simp only [List.getElem?_toArray, List.getElem?_cons_succ, List.getElem?_cons_zero]; try rfl)
          case hQ22x26 => exact fun _ _ _ h => h
          case hw22x26 => rfl
          case hy22x26 => (intro w hSw; (try dsimp only at hSw); go_simp; (first | done | (with_reducible rfl)))
          (try simp only [Act.put, List.setIfInBounds_toArray, List.set_cons_zero, List.set_cons_succ])
          refine wpAnyH_take (i := 26) (oi := ?o26x27) (v := ?v26x27) ?ho26x27 (by kernel_rfl) (by kernel_rfl) (by kernel_rfl) ?hQ26x27 (Or.inl ⟨?hw26x27, ?hy26x27⟩) (by assumption) ?_
          case ho26x27 => (simp only [List.getElem?_toArray, List.getElem?_cons_succ, List.getElem?_cons_zero]; try rfl)
          case hQ26x27 => exact fun _ _ _ h => h
          case hw26x27 => rfl
          case hy26x27 => (intro w hSw; (try dsimp only at hSw); go_simp; (first | done | (with_reducible rfl)))
          (try simp only [Act.put, List.setIfInBounds_toArray, List.set_cons_zero, List.set_cons_succ])
          refine wpAnyH_take (i := 27) (oi := ?o27x28) (v := ?v27x28) ?ho27x28 (by kernel_rfl) (by kernel_rfl) (by kernel_rfl) ?hQ27x28 (Or.inl ⟨?hw27x28, ?hy27x28⟩) (by assumption) ?_
          case ho27x28 => (simp only [List.getElem?_toArray, List.getElem?_cons_succ, List.getElem?_cons_zero]; try rfl)
          case hQ27x28 => exact fun _ _ _ h => h
          case hw27x28 => rfl
          case hy27x28 => (intro w hSw; (try dsimp only at hSw); go_simp; (first | done | (with_reducible rfl)))
          (try simp only [Act.put, List.setIfInBounds_toArray, List.set_cons_zero, List.set_cons_succ])
          refine wpAnyH_ready (rs := [28]) (by kernel_rfl) (by simp) ?_
          refine (AllReadyH.cons (i := 28) (o := ?o28y29) ?ho28y29 (fun K hK => ?_) AllReadyH.nil)
          case ho28y29 => (simp only [List.getElem?_toArray, List.getElem?_cons_succ, List.getElem?_cons_zero]; try rfl)
          go_simp
          refine hK.out _ _ (HC.out _ bUU) (fun _ => ?_)
          clear hK K
          (try simp only [Act.put, List.setIfInBounds_toArray, List.set_cons_zero, List.set_cons_succ])
          refine wpAnyH_done (by kernel_rfl) ?_ _
          have HBU := hide bUU
          clear bUU bU
          go_wp2_with fail
          go_ret
          exact ⟨rfl, below_step HB.out HBU.out⟩
    | false =>
      cases e13 : (x1 == 2) with
      | true =>
        cases e12 : (x2.toList == []) with
        | true =>
          go_enter Try.func79, Try.ntmps79
          go_upto_region 1 with fail
          rw [HW1.out]
          go_upto_region 3 with fail
          first | go_quiet (fail) | fail
          go_wp2_with fail
          go_ret
          exact ⟨by first | rfl | simp, by first | exact pw_below_drewN HB.out _ | exact HB.out.drew | exact HB.out⟩
        | false =>
          cases e14 : (x4.toList == []) with
          | false =>
            go_enter Try.func79, Try.ntmps79
            go_upto_region 1 with fail
            rw [HW1.out]
            go_upto_region 3 with fail
            first | go_quiet (fail) | fail
            go_wp2_with fail
            go_ret
            exact ⟨by first | rfl | simp, by first | exact pw_below_drewN HB.out _ | exact HB.out.drew | exact HB.out⟩
          | true =>
            go_enter Try.func79, Try.ntmps79
            go_upto_region 1 with fail
            rw [HW1.out]
            go_upto_region 3 with fail
            refine wp_region_held_drew (S := fun W => W.cell? ⟨w.heap.size, 0, none⟩ = some (.int .i64 x0) ∧ W.cell? ⟨w.heap.size, 1, none⟩ = some (.int .i64 x1) ∧ W.cell? ⟨w.heap.size, 2, none⟩ = some (.string x2) ∧ W.cell? ⟨w.heap.size, 3, none⟩ = some (.slice A3 n3 c3) ∧ W.cell? ⟨w.heap.size, 4, none⟩ = some (.string x4)) (by kernel_rfl) (HC.out _ (Below.drew (Below.refl _ _))) (fun hHeld => ?_)
            refine wpAnyH_take (i := 0) (oi := ?o0x30) (v := ?v0x30) ?ho0x30 (by kernel_rfl) (by kernel_rfl) (by kernel_rfl) ?hQ0x30 (Or.inl ⟨?hw0x30, ?hy0x30⟩) (by assumption) ?_
            case ho0x30 => (simp only [List.getElem?_toArray, List.getElem?_cons_succ, List.getElem?_cons_zero]; try rfl)
            case hQ0x30 => exact fun _ _ _ h => h
            case hw0x30 => rfl
            case hy0x30 => (intro w hSw; (try dsimp only at hSw); go_simp; (first | done | (with_reducible rfl)))
            (try simp only [Act.put, List.setIfInBounds_toArray, List.set_cons_zero, List.set_cons_succ])
            refine wpAnyH_take (i := 1) (oi := ?o1x31) (v := ?v1x31) ?ho1x31 (by kernel_rfl) (by kernel_rfl) (by kernel_rfl) ?hQ1x31 (Or.inl ⟨?hw1x31, ?hy1x31⟩) (by assumption) ?_
            case ho1x31 => (simp only [List.getElem?_toArray, List.getElem?_cons_succ, List.getElem?_cons_zero]; try rfl)
            case hQ1x31 => exact fun _ _ _ h => h
            case hw1x31 => rfl
            case hy1x31 => (intro w hSw; (try dsimp only at hSw); go_simp; (first | done | (with_reducible rfl)))
            (try simp only [Act.put, List.setIfInBounds_toArray, List.set_cons_zero, List.set_cons_succ])
            refine wpAnyH_take (i := 2) (oi := ?o2x32) (v := ?v2x32) ?ho2x32 (by kernel_rfl) (by kernel_rfl) (by kernel_rfl) ?hQ2x32 (Or.inl ⟨?hw2x32, ?hy2x32⟩) (by assumption) ?_
            case ho2x32 => (simp only [List.getElem?_toArray, List.getElem?_cons_succ, List.getElem?_cons_zero]; try rfl)
            case hQ2x32 => exact fun _ _ _ h => h
            case hw2x32 => rfl
            case hy2x32 => (intro w hSw; (try dsimp only at hSw); go_simp; (first | done | (with_reducible rfl)))
            (try simp only [Act.put, List.setIfInBounds_toArray, List.set_cons_zero, List.set_cons_succ])
            refine wpAnyH_take (i := 3) (oi := ?o3x33) (v := ?v3x33) ?ho3x33 (by kernel_rfl) (by kernel_rfl) (by kernel_rfl) ?hQ3x33 (Or.inl ⟨?hw3x33, ?hy3x33⟩) (by assumption) ?_
            case ho3x33 => (simp only [List.getElem?_toArray, List.getElem?_cons_succ, List.getElem?_cons_zero]; try rfl)
            case hQ3x33 => exact fun _ _ _ h => h
            case hw3x33 => rfl
            case hy3x33 => (intro w hSw; (try dsimp only at hSw); go_simp; (first | done | (with_reducible rfl)))
            (try simp only [Act.put, List.setIfInBounds_toArray, List.set_cons_zero, List.set_cons_succ])
            refine wpAnyH_take (i := 4) (oi := ?o4x34) (v := ?v4x34) ?ho4x34 (by kernel_rfl) (by kernel_rfl) (by kernel_rfl) ?hQ4x34 (Or.inl ⟨?hw4x34, ?hy4x34⟩) (by assumption) ?_
            case ho4x34 => (simp only [List.getElem?_toArray, List.getElem?_cons_succ, List.getElem?_cons_zero]; try rfl)
            case hQ4x34 => exact fun _ _ _ h => h
            case hw4x34 => rfl
            case hy4x34 => (intro w hSw; (try dsimp only at hSw); go_simp; (first | done | (with_reducible rfl)))
            (try simp only [Act.put, List.setIfInBounds_toArray, List.set_cons_zero, List.set_cons_succ])
            refine wpAnyH_take (i := 5) (oi := ?o5x35) (v := ?v5x35) ?ho5x35 (by kernel_rfl) (by kernel_rfl) (by kernel_rfl) ?hQ5x35 (Or.inl ⟨?hw5x35, ?hy5x35⟩) (by assumption) ?_
            case ho5x35 => (simp only [List.getElem?_toArray, List.getElem?_cons_succ, List.getElem?_cons_zero]; try rfl)
            case hQ5x35 => exact fun _ _ _ h => h
            case hw5x35 => rfl
            case hy5x35 => (intro w hSw; (try dsimp only at hSw); go_simp; (first | done | (with_reducible rfl)))
            (try simp only [Act.put, List.setIfInBounds_toArray, List.set_cons_zero, List.set_cons_succ])
            refine wpAnyH_take (i := 6) (oi := ?o6x36) (v := ?v6x36) ?ho6x36 (by kernel_rfl) (by kernel_rfl) (by kernel_rfl) ?hQ6x36 (Or.inl ⟨?hw6x36, ?hy6x36⟩) (by assumption) ?_
            case ho6x36 => (simp only [List.getElem?_toArray, List.getElem?_cons_succ, List.getElem?_cons_zero]; try rfl)
            case hQ6x36 => exact fun _ _ _ h => h
            case hw6x36 => rfl
            case hy6x36 => (intro w hSw; (try dsimp only at hSw); go_simp; (first | done | (with_reducible rfl)))
            (try simp only [Act.put, List.setIfInBounds_toArray, List.set_cons_zero, List.set_cons_succ])
            refine wpAnyH_take (i := 7) (oi := ?o7x37) (v := ?v7x37) ?ho7x37 (by kernel_rfl) (by kernel_rfl) (by kernel_rfl) ?hQ7x37 (Or.inl ⟨?hw7x37, ?hy7x37⟩) (by assumption) ?_
            case ho7x37 => (simp only [List.getElem?_toArray, List.getElem?_cons_succ, List.getElem?_cons_zero]; try rfl)
            case hQ7x37 => exact fun _ _ _ h => h
            case hw7x37 => rfl
            case hy7x37 => (intro w hSw; (try dsimp only at hSw); go_simp; (first | done | (with_reducible rfl)))
            (try simp only [Act.put, List.setIfInBounds_toArray, List.set_cons_zero, List.set_cons_succ])
            refine wpAnyH_take (i := 8) (oi := ?o8x38) (v := ?v8x38) ?ho8x38 (by kernel_rfl) (by kernel_rfl) (by kernel_rfl) ?hQ8x38 (Or.inl ⟨?hw8x38, ?hy8x38⟩) (by assumption) ?_
            case ho8x38 => (simp only [List.getElem?_toArray, List.getElem?_cons_succ, List.getElem?_cons_zero]; try rfl)
            case hQ8x38 => exact fun _ _ _ h => h
            case hw8x38 => rfl
            case hy8x38 => (intro w hSw; (try dsimp only at hSw); go_simp; (first | done | (with_reducible rfl)))
            (try simp only [Act.put, List.setIfInBounds_toArray, List.set_cons_zero, List.set_cons_succ])
            refine wpAnyH_take (i := 9) (oi := ?o9x39) (v := ?v9x39) ?ho9x39 (by kernel_rfl) (by kernel_rfl) (by kernel_rfl) ?hQ9x39 (Or.inl ⟨?hw9x39, ?hy9x39⟩) (by assumption) ?_
            case ho9x39 => (simp only [List.getElem?_toArray, List.getElem?_cons_succ, List.getElem?_cons_zero]; try rfl)
            case hQ9x39 => exact fun _ _ _ h => h
            case hw9x39 => rfl
            case hy9x39 => (intro w hSw; (try dsimp only at hSw); go_simp; (first | done | (with_reducible rfl)))
            (try simp only [Act.put, List.setIfInBounds_toArray, List.set_cons_zero, List.set_cons_succ])
            refine wpAnyH_take (i := 10) (oi := ?o10x40) (v := ?v10x40) ?ho10x40 (by kernel_rfl) (by kernel_rfl) (by kernel_rfl) ?hQ10x40 (Or.inl ⟨?hw10x40, ?hy10x40⟩) (by assumption) ?_
            case ho10x40 => (simp only [List.getElem?_toArray, List.getElem?_cons_succ, List.getElem?_cons_zero]; try rfl)
            case hQ10x40 => exact fun _ _ _ h => h
            case hw10x40 => rfl
            case hy10x40 => (intro w hSw; (try dsimp only at hSw); go_simp; (first | done | (with_reducible rfl)))
            (try simp only [Act.put, List.setIfInBounds_toArray, List.set_cons_zero, List.set_cons_succ])
            refine wpAnyH_take (i := 11) (oi := ?o11x41) (v := ?v11x41) ?ho11x41 (by kernel_rfl) (by kernel_rfl) (by kernel_rfl) ?hQ11x41 (Or.inl ⟨?hw11x41, ?hy11x41⟩) (by assumption) ?_
            case ho11x41 => (simp only [List.getElem?_toArray, List.getElem?_cons_succ, List.getElem?_cons_zero]; try rfl)
            case hQ11x41 => exact fun _ _ _ h => h
            case hw11x41 => rfl
            case hy11x41 => (intro w hSw; (try dsimp only at hSw); go_simp; (first | done | (with_reducible rfl)))
            (try simp only [Act.put, List.setIfInBounds_toArray, List.set_cons_zero, List.set_cons_succ])
            refine wpAnyH_take (i := 12) (oi := ?o12x42) (v := ?v12x42) ?ho12x42 (by kernel_rfl) (by kernel_rfl) (by kernel_rfl) ?hQ12x42 (Or.inl ⟨?hw12x42, ?hy12x42⟩) (by assumption) ?_
            case ho12x42 => (simp only [List.getElem?_toArray, List.getElem?_cons_succ, List.getElem?_cons_zero]; try rfl)
            case hQ12x42 => exact fun _ _ _ h => h
            case hw12x42 => rfl
            case hy12x42 => (intro w hSw; (try dsimp only at hSw); go_simp; (first | done | (with_reducible rfl)))
            (try simp only [Act.put, List.setIfInBounds_toArray, List.set_cons_zero, List.set_cons_succ])
            refine wpAnyH_take (i := 13) (oi := ?o13x43) (v := ?v13x43) ?ho13x43 (by kernel_rfl) (by kernel_rfl) (by kernel_rfl) ?hQ13x43 (Or.inl ⟨?hw13x43, ?hy13x43⟩) (by assumption) ?_
            case ho13x43 => (simp only [List.getElem?_toArray, List.getElem?_cons_succ, List.getElem?_cons_zero]; try rfl)
            case hQ13x43 => exact fun _ _ _ h => h
            case hw13x43 => rfl
            case hy13x43 => (intro w hSw; (try dsimp only at hSw); go_simp; (first | done | (with_reducible rfl)))
            (try simp only [Act.put, List.setIfInBounds_toArray, List.set_cons_zero, List.set_cons_succ])
            refine wpAnyH_take (i := 14) (oi := ?o14x44) (v := ?v14x44) ?ho14x44 (by kernel_rfl) (by kernel_rfl) (by kernel_rfl) ?hQ14x44 (Or.inl ⟨?hw14x44, ?hy14x44⟩) (by assumption) ?_
            case ho14x44 => (simp only [List.getElem?_toArray, List.getElem?_cons_succ, List.getElem?_cons_zero]; try rfl)
            case hQ14x44 => exact fun _ _ _ h => h
            case hw14x44 => rfl
            case hy14x44 => (intro w hSw; (try dsimp only at hSw); go_simp; (first | done | (with_reducible rfl)))
            (try simp only [Act.put, List.setIfInBounds_toArray, List.set_cons_zero, List.set_cons_succ])
            refine wpAnyH_take (i := 15) (oi := ?o15x45) (v := ?v15x45) ?ho15x45 (by kernel_rfl) (by kernel_rfl) (by kernel_rfl) ?hQ15x45 (Or.inl ⟨?hw15x45, ?hy15x45⟩) (by assumption) ?_
            case ho15x45 => (simp only [List.getElem?_toArray, List.getElem?_cons_succ, List.getElem?_cons_zero]; try rfl)
            case hQ15x45 => exact fun _ _ _ h => h
            case hw15x45 => rfl
            case hy15x45 => (intro w hSw; (try dsimp only at hSw); go_simp; (first | done | (with_reducible rfl)))
            (try simp only [Act.put, List.setIfInBounds_toArray, List.set_cons_zero, List.set_cons_succ])
            refine wpAnyH_take (i := 16) (oi := ?o16x46) (v := ?v16x46) ?ho16x46 (by kernel_rfl) (by kernel_rfl) (by kernel_rfl) ?hQ16x46 (Or.inl ⟨?hw16x46, ?hy16x46⟩) (by assumption) ?_
            case ho16x46 => (simp only [List.getElem?_toArray, List.getElem?_cons_succ, List.getElem?_cons_zero]; try rfl)
            case hQ16x46 => exact fun _ _ _ h => h
            case hw16x46 => rfl
            case hy16x46 => (intro w hSw; (try dsimp only at hSw); go_simp; (first | done | (with_reducible rfl)))
            (try simp only [Act.put, List.setIfInBounds_toArray, List.set_cons_zero, List.set_cons_succ])
            refine wpAnyH_take (i := 17) (oi := ?o17x47) (v := ?v17x47) ?ho17x47 (by kernel_rfl) (by kernel_rfl) (by kernel_rfl) ?hQ17x47 (Or.inl ⟨?hw17x47, ?hy17x47⟩) (by assumption) ?_
            case ho17x47 => (simp only [List.getElem?_toArray, List.getElem?_cons_succ, List.getElem?_cons_zero]; try rfl)
            case hQ17x47 => exact fun _ _ _ h => h
            case hw17x47 => rfl
            case hy17x47 => (intro w hSw; (try dsimp only at hSw); go_simp; (first | done | (with_reducible rfl)))
            (try simp only [Act.put, List.setIfInBounds_toArray, List.set_cons_zero, List.set_cons_succ])
            refine wpAnyH_take (i := 18) (oi := ?o18x48) (v := ?v18x48) ?ho18x48 (by kernel_rfl) (by kernel_rfl) (by kernel_rfl) ?hQ18x48 (Or.inl ⟨?hw18x48, ?hy18x48⟩) (by assumption) ?_
            case ho18x48 => (simp only [List.getElem?_toArray, List.getElem?_cons_succ, List.getElem?_cons_zero]; try rfl)
            case hQ18x48 => exact fun _ _ _ h => h
            case hw18x48 => rfl
            case hy18x48 => (intro w hSw; (try dsimp only at hSw); go_simp; (first | done | (with_reducible rfl)))
            (try simp only [Act.put, List.setIfInBounds_toArray, List.set_cons_zero, List.set_cons_succ])
            refine wpAnyH_take (i := 19) (oi := ?o19x49) (v := ?v19x49) ?ho19x49 (by kernel_rfl) (by kernel_rfl) (by kernel_rfl) ?hQ19x49 (Or.inl ⟨?hw19x49, ?hy19x49⟩) (by assumption) ?_
            case ho19x49 => (simp only [List.getElem?_toArray, List.getElem?_cons_succ, List.getElem?_cons_zero]; try rfl)
            case hQ19x49 => exact fun _ _ _ h => h
            case hw19x49 => rfl
            case hy19x49 => (intro w hSw; (try dsimp only at hSw); go_simp; (first | done | (with_reducible rfl)))
            (try simp only [Act.put, List.setIfInBounds_toArray, List.set_cons_zero, List.set_cons_succ])
            refine wpAnyH_take (i := 20) (oi := ?o20x50) (v := ?v20x50) ?ho20x50 (by kernel_rfl) (by kernel_rfl) (by kernel_rfl) ?hQ20x50 (Or.inl ⟨?hw20x50, ?hy20x50⟩) (by assumption) ?_
            case ho20x50 => (simp only [List.getElem?_toArray, List.getElem?_cons_succ, List.getElem?_cons_zero]; try rfl)
            case hQ20x50 => exact fun _ _ _ h => h
            case hw20x50 => rfl
            case hy20x50 => (intro w hSw; (try dsimp only at hSw); go_simp; (first | done | (with_reducible rfl)))
            (try simp only [Act.put, List.setIfInBounds_toArray, List.set_cons_zero, List.set_cons_succ])
            refine wpAnyH_take (i := 23) (oi := ?o23x51) (v := ?v23x51) ?ho23x51 (by kernel_rfl) (by kernel_rfl) (by kernel_rfl) ?hQ23x51 (Or.inl ⟨?hw23x51, ?hy23x51⟩) (by assumption) ?_
            case ho23x51 => (simp only [List.getElem?_toArray, List.getElem?_cons_succ, List.getElem?_cons_zero]; try rfl)
            case hQ23x51 => exact fun _ _ _ h => h
            case hw23x51 => rfl
            case hy23x51 => (intro w hSw; (try dsimp only at hSw); go_simp; (first | done | (with_reducible rfl)))
            (try simp only [Act.put, List.setIfInBounds_toArray, List.set_cons_zero, List.set_cons_succ])
            refine wpAnyH_take (i := 24) (oi := ?o24x52) (v := ?v24x52) ?ho24x52 (by kernel_rfl) (by kernel_rfl) (by kernel_rfl) ?hQ24x52 (Or.inl ⟨?hw24x52, ?hy24x52⟩) (by assumption) ?_
            case ho24x52 => (simp only [List.getElem?_toArray, List.getElem?_cons_succ, List.getElem?_cons_zero]; try rfl)
            case hQ24x52 => exact fun _ _ _ h => h
            case hw24x52 => rfl
            case hy24x52 => (intro w hSw; (try dsimp only at hSw); go_simp; (first | done | (with_reducible rfl)))
            (try simp only [Act.put, List.setIfInBounds_toArray, List.set_cons_zero, List.set_cons_succ])
            refine wpAnyH_take (i := 25) (oi := ?o25x53) (v := ?v25x53) ?ho25x53 (by kernel_rfl) (by kernel_rfl) (by kernel_rfl) ?hQ25x53 (Or.inl ⟨?hw25x53, ?hy25x53⟩) (by assumption) ?_
            case ho25x53 => (simp only [List.getElem?_toArray, List.getElem?_cons_succ, List.getElem?_cons_zero]; try rfl)
            case hQ25x53 => exact fun _ _ _ h => h
            case hw25x53 => rfl
            case hy25x53 => (intro w hSw; (try dsimp only at hSw); go_simp; (first | done | (with_reducible rfl)))
            (try simp only [Act.put, List.setIfInBounds_toArray, List.set_cons_zero, List.set_cons_succ])
            refine wpAnyH_ready (rs := [21]) (by kernel_rfl) (by simp) ?_
            refine (AllReadyH.cons (i := 21) (o := ?o21y54) ?ho21y54 (fun K hK => ?_) AllReadyH.nil)
            case ho21y54 => (simp only [List.getElem?_toArray, List.getElem?_cons_succ, List.getElem?_cons_zero]; try rfl)
            go_simp
            go_at_call 87
            (with_reducible refine (HU.out _ (Below.drew (Below.refl _ _))).mono ?_)
            rintro e wU ⟨vU, rfl, rU, bU⟩
            have bUU := below_step (Below.drew (Below.refl w1.heap.size w1)) bU
            obtain ⟨AU, cU, rfl, lU, gU⟩ := Kd.R_reads rU
            clear gU lU rU
            refine hK.out _ _ (HC.out _ bUU) (fun _ => ?_)
            clear hK K
            (try simp only [Act.put, List.setIfInBounds_toArray, List.set_cons_zero, List.set_cons_succ])
            refine wpAnyH_take (i := 22) (oi := ?o22x55) (v := ?v22x55) ?ho22x55 (by kernel_rfl) (by kernel_rfl) (by kernel_rfl) ?hQ22x55 (Or.inl ⟨?hw22x55, ?hy22x55⟩) (by assumption) ?_
            case ho22x55 => (simp only [List.getElem?_toArray, List.getElem?_cons_succ, List.getElem?_cons_zero]; try rfl)
            case hQ22x55 => exact fun _ _ _ h => h
            case hw22x55 => rfl
            case hy22x55 => (intro w hSw; (try dsimp only at hSw); go_simp; (first | done | (with_reducible rfl)))
            (try simp only [Act.put, List.setIfInBounds_toArray, List.set_cons_zero, List.set_cons_succ])
            refine wpAnyH_take (i := 26) (oi := ?o26x56) (v := ?v26x56) ?ho26x56 (by kernel_rfl) (by kernel_rfl) (by kernel_rfl) ?hQ26x56 (Or.inl ⟨?hw26x56, ?hy26x56⟩) (by assumption) ?_
            case ho26x56 => (simp only [List.getElem?_toArray, List.getElem?_cons_succ, List.getElem?_cons_zero]; try rfl)
            case hQ26x56 => exact fun _ _ _ h => h
            case hw26x56 => rfl
            case hy26x56 => (intro w hSw; (try dsimp only at hSw); go_simp; (first | done | (with_reducible rfl)))
            (try simp only [Act.put, List.setIfInBounds_toArray, List.set_cons_zero, List.set_cons_succ])
            refine wpAnyH_take (i := 27) (oi := ?o27x57) (v := ?v27x57) ?ho27x57 (by kernel_rfl) (by kernel_rfl) (by kernel_rfl) ?hQ27x57 (Or.inl ⟨?hw27x57, ?hy27x57⟩) (by assumption) ?_
            case ho27x57 => (simp only [List.getElem?_toArray, List.getElem?_cons_succ, List.getElem?_cons_zero]; try rfl)
            case hQ27x57 => exact fun _ _ _ h => h
            case hw27x57 => rfl
            case hy27x57 => (intro w hSw; (try dsimp only at hSw); go_simp; (first | done | (with_reducible rfl)))
            (try simp only [Act.put, List.setIfInBounds_toArray, List.set_cons_zero, List.set_cons_succ])
            refine wpAnyH_ready (rs := [28]) (by kernel_rfl) (by simp) ?_
            refine (AllReadyH.cons (i := 28) (o := ?o28y58) ?ho28y58 (fun K hK => ?_) AllReadyH.nil)
            case ho28y58 => (simp only [List.getElem?_toArray, List.getElem?_cons_succ, List.getElem?_cons_zero]; try rfl)
            go_simp
            refine hK.out _ _ (HC.out _ bUU) (fun _ => ?_)
            clear hK K
            (try simp only [Act.put, List.setIfInBounds_toArray, List.set_cons_zero, List.set_cons_succ])
            refine wpAnyH_done (by kernel_rfl) ?_ _
            have HBU := hide bUU
            clear bUU bU
            go_wp2_with fail
            go_ret
            exact ⟨rfl, below_step HB.out HBU.out⟩
      | false =>
        go_enter Try.func79, Try.ntmps79
        go_upto_region 1 with fail
        rw [HW1.out]
        go_upto_region 3 with fail
        first | go_quiet (fail) | fail
        go_wp2_with fail
        go_ret
        exact ⟨by first | rfl | simp, by first | exact pw_below_drewN HB.out _ | exact HB.out.drew | exact HB.out⟩
  | false =>
    cases k4 : (x0 == 4) with
    | true =>
      cases e0 : (x1 == 0) with
      | false =>
        go_enter Try.func79, Try.ntmps79
        go_upto_region 1 with fail
        rw [HW1.out]
        go_wp2_with fail
        go_ret
        exact ⟨by first | rfl | simp, HB.out⟩
      | true =>
        cases e1 : (x2.toList == []) with
        | false =>
          go_enter Try.func79, Try.ntmps79
          go_upto_region 1 with fail
          rw [HW1.out]
          go_wp2_with fail
          go_ret
          exact ⟨by first | rfl | simp, HB.out⟩
        | true =>
          cases e2 : ((n3 : Int) == 0) with
          | false =>
            go_enter Try.func79, Try.ntmps79
            go_upto_region 1 with fail
            rw [HW1.out]
            go_wp2_with fail
            go_ret
            exact ⟨by first | rfl | simp, HB.out⟩
          | true =>
            cases e3 : (x4.toList == []) with
            | false =>
              cases e4 : ((n5 : Int) == 0) with
              | false =>
                go_enter Try.func79, Try.ntmps79
                go_upto_region 1 with fail
                rw [HW1.out]
                go_wp2_with fail
                go_ret
                exact ⟨by first | rfl | simp, HB.out⟩
              | true =>
                go_enter Try.func79, Try.ntmps79
                go_upto_region 1 with fail
                rw [HW1.out]
                go_wp2_with fail
                go_ret
                exact ⟨by first | rfl | simp, HB.out⟩
            | true =>
              go_enter Try.func79, Try.ntmps79
              go_upto_region 1 with fail
              rw [HW1.out]
              go_wp2_with fail
              go_ret
              exact ⟨by first | rfl | simp, HB.out⟩
    | false =>
      cases k5 : (x0 == 5) with
      | true =>
        cases e0 : (x1 == 0) with
        | false =>
          go_enter Try.func79, Try.ntmps79
          go_upto_region 1 with fail
          rw [HW1.out]
          go_wp2_with fail
          go_ret
          exact ⟨by first | rfl | simp, HB.out⟩
        | true =>
          cases e1 : (x2.toList == []) with
          | false =>
            go_enter Try.func79, Try.ntmps79
            go_upto_region 1 with fail
            rw [HW1.out]
            go_wp2_with fail
            go_ret
            exact ⟨by first | rfl | simp, HB.out⟩
          | true =>
            cases e2 : ((n3 : Int) == 0) with
            | false =>
              go_enter Try.func79, Try.ntmps79
              go_upto_region 1 with fail
              rw [HW1.out]
              go_wp2_with fail
              go_ret
              exact ⟨by first | rfl | simp, HB.out⟩
            | true =>
              cases e3 : ((n5 : Int) == 0) with
              | false =>
                go_enter Try.func79, Try.ntmps79
                go_upto_region 1 with fail
                rw [HW1.out]
                go_wp2_with fail
                go_ret
                exact ⟨by first | rfl | simp, HB.out⟩
              | true =>
                go_enter Try.func79, Try.ntmps79
                go_upto_region 1 with fail
                rw [HW1.out]
                go_wp2_with fail
                go_ret
                exact ⟨by first | rfl | simp, HB.out⟩
      | false =>
        cases k2 : (x0 == 2) with
        | true =>
          cases e0 : (x1 == 0) with
          | false =>
            go_enter Try.func79, Try.ntmps79
            go_upto_region 1 with fail
            rw [HW1.out]
            go_wp2_with fail
            go_ret
            exact ⟨by first | rfl | simp, HB.out⟩
          | true =>
            cases e1 : (x4.toList == []) with
            | false =>
              go_enter Try.func79, Try.ntmps79
              go_upto_region 1 with fail
              rw [HW1.out]
              go_wp2_with fail
              go_ret
              exact ⟨by first | rfl | simp, HB.out⟩
            | true =>
              cases e2 : ((n3 : Int) == 0) with
              | false =>
                go_enter Try.func79, Try.ntmps79
                go_upto_region 1 with fail
                rw [HW1.out]
                go_wp2_with fail
                go_ret
                exact ⟨by first | rfl | simp, HB.out⟩
              | true =>
                cases e3 : ((n5 : Int) == 0) with
                | false =>
                  go_enter Try.func79, Try.ntmps79
                  go_upto_region 1 with fail
                  rw [HW1.out]
                  go_wp2_with fail
                  go_ret
                  exact ⟨by first | rfl | simp, HB.out⟩
                | true =>
                  go_enter Try.func79, Try.ntmps79
                  go_upto_region 1 with fail
                  rw [HW1.out]
                  go_wp2_with fail
                  go_ret
                  exact ⟨by first | rfl | simp, HB.out⟩
        | false =>
          cases k1 : (x0 == 1) with
          | true =>
            cases e0 : (x1 == 0) with
            | false =>
              go_enter Try.func79, Try.ntmps79
              go_upto_region 1 with fail
              rw [HW1.out]
              go_wp2_with fail
              go_ret
              exact ⟨by first | rfl | simp, HB.out⟩
            | true =>
              cases e1 : (x2.toList == []) with
              | false =>
                go_enter Try.func79, Try.ntmps79
                go_upto_region 1 with fail
                rw [HW1.out]
                go_wp2_with fail
                go_ret
                exact ⟨by first | rfl | simp, HB.out⟩
              | true =>
                cases e2 : (x4.toList == []) with
                | false =>
                  go_enter Try.func79, Try.ntmps79
                  go_upto_region 1 with fail
                  rw [HW1.out]
                  go_wp2_with fail
                  go_ret
                  exact ⟨by first | rfl | simp, HB.out⟩
                | true =>
                  cases e3 : ((n3 : Int) == 0) with
                  | false =>
                    go_enter Try.func79, Try.ntmps79
                    go_upto_region 1 with fail
                    rw [HW1.out]
                    go_wp2_with fail
                    go_ret
                    exact ⟨by first | rfl | simp, HB.out⟩
                  | true =>
                    go_enter Try.func79, Try.ntmps79
                    go_upto_region 1 with fail
                    rw [HW1.out]
                    go_wp2_with fail
                    go_ret
                    exact ⟨by first | rfl | simp, HB.out⟩
          | false =>
            cases k6 : (x0 == 6) with
            | true =>
              cases e0 : (x1 == 0) with
              | false =>
                go_enter Try.func79, Try.ntmps79
                go_upto_region 1 with fail
                rw [HW1.out]
                go_wp2_with fail
                go_ret
                exact ⟨by first | rfl | simp, HB.out⟩
              | true =>
                cases e1 : (x2.toList == []) with
                | false =>
                  go_enter Try.func79, Try.ntmps79
                  go_upto_region 1 with fail
                  rw [HW1.out]
                  go_wp2_with fail
                  go_ret
                  exact ⟨by first | rfl | simp, HB.out⟩
                | true =>
                  cases e2 : (x4.toList == []) with
                  | false =>
                    go_enter Try.func79, Try.ntmps79
                    go_upto_region 1 with fail
                    rw [HW1.out]
                    go_wp2_with fail
                    go_ret
                    exact ⟨by first | rfl | simp, HB.out⟩
                  | true =>
                    cases e3 : ((n3 : Int) == 0) with
                    | false =>
                      go_enter Try.func79, Try.ntmps79
                      go_upto_region 1 with fail
                      rw [HW1.out]
                      go_wp2_with fail
                      go_ret
                      exact ⟨by first | rfl | simp, HB.out⟩
                    | true =>
                      go_enter Try.func79, Try.ntmps79
                      go_upto_region 1 with fail
                      rw [HW1.out]
                      go_wp2_with fail
                      go_ret
                      exact ⟨by first | rfl | simp, HB.out⟩
            | false =>
              go_enter Try.func79, Try.ntmps79
              go_upto_region 1 with fail
              rw [HW1.out]
              go_wp2_with fail
              go_ret
              exact ⟨by first | rfl | simp, HB.out⟩
end Go.Proofs.Ytaponaemgolmoaa.Tr
