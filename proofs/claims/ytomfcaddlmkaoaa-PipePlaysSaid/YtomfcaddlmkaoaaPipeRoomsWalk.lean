/- The walk of the law PipeRooms: true. -/
import Derived.Test.YtomfcaddlmkaoaaPipeNumbersWalk
namespace Go.Proofs.Ytomfcaddlmkaoaa.Pipe
open Go.RowKit Go.Conc Go.Proofs.YtomfcaddlmkaoaaW.PrintWords Go.Proofs.YtomfcaddlmkaoaaW.PrintLast

theorem within (a : Int) (m : Nat) (h1 : 1 ≤ m) (h2 : m ≤ 1000) (w : World) : ∃ n : Nat, 1 ≤ n ∧ n ≤ m ∧ Calls Try.prog 15 #[.int .i64 a, .int .i64 1, .int .i64 m] w fun e w' => e = .returned (.int .i64 n) ∧ Below w.heap.size w w' := by
  have e1 : wrap64 (wrap64 ((m : Int) - 1) + 1) = m := by rw [IntWalk.wrap64_in _ (by rw [IntWalk.wrap64_in _ (by omega)]; omega), IntWalk.wrap64_in _ (by omega)]; omega
  have t1 := Int.tmod_lt_of_pos a (show (0 : Int) < m by omega)
  have t2 := Int.lt_tmod_of_pos a (show (0 : Int) < m by omega)
  have hf : PPipePlays.arbourbook_Within.f a 1 m = some (if Int.tmod a m < 0 then 1 + (Int.tmod a m + m - 1 + 1) else 1 + Int.tmod a m) := by
    unfold PPipePlays.arbourbook_Within.f
    rw [e1, if_neg (by omega)]
    by_cases h : Int.tmod a m < 0
    · rw [if_pos h, if_pos h]
      rw [IntWalk.wrap64_in (Int.tmod a m + m) (by omega), IntWalk.wrap64_in (Int.tmod a m + m - 1) (by omega), IntWalk.wrap64_in (Int.tmod a m + m - 1 + 1) (by omega), IntWalk.wrap64_in _ (by omega)]
    · rw [if_neg h, if_neg h, IntWalk.wrap64_in _ (by omega)]
  refine ⟨(if Int.tmod a m < 0 then 1 + (Int.tmod a m + m - 1 + 1) else 1 + Int.tmod a m).toNat, by split <;> omega, by split <;> omega, ?_⟩
  refine (PPipePlays.arbourbook_Within.calls a 1 m _ w hf).mono ?_
  rintro e w' ⟨rfl, hd⟩
  refine ⟨?_, hd.below⟩
  congr 2
  split <;> omega

theorem cell_at {α : Type} {enc : α → Value} {h1 : ∀ x, (enc x).oneCell' = true} {w : World} {A : Option Addr} {xs : List α} (h : (Kd.scalar enc h1).C w A xs.length xs) (z : α) (i : Nat) (hi : i < xs.length) : ∃ ad, A = some ad ∧ w.cell? (ad.add i) = some (enc (xs.getD i z)) := by
  obtain ⟨ad, cs, rfl, hcs, hK, hcell⟩ := Kd.C_get h z (i : Int) (by omega) (by omega)
  have hcs2 : cs = [enc (xs.getD i z)] := hK
  subst hcs2
  have h0 := hcell 0 _ rfl
  have ei : (i : Int).toNat * (Kd.scalar enc h1).sz + 0 = i := by show (i : Int).toNat * 1 + 0 = i; omega
  rw [ei] at h0
  exact ⟨ad, rfl, h0⟩

set_option maxHeartbeats 4000000 in
set_option maxRecDepth 100000 in
theorem rooms (a0 : Int) (A : Option Addr) (c : Nat) (xs : List Int) (W : World) (hl : (Kd.int .i64).C W A xs.length xs ∧ xs.length ≤ c) : Calls Try.prog 6 #[.int .i64 a0, .slice A xs.length c] W fun e w' => e = .returned (.bool true) ∧ Below W.heap.size W w' := by
  obtain ⟨n, hn1, hn2, hw⟩ := within a0 60 (by omega) (by omega) W
  rw [show ((60 : Nat) : Int) = 60 from rfl] at hw
  have HC0 := hide hl.1
  have HW := hide hw
  clear hl hw
  go_enter Try.func6, Try.ntmps6
  go_wp2_with fail
  refine HW.out.mono ?_
  rintro e w1 ⟨rfl, hb⟩
  have HB1 := hide hb
  have HLW := hide (show W.heap.size ≤ w1.heap.size from hb.size)
  clear hb HW
  dsimp only
  go_wp2_with fail
  refine (newI n hn1 (by omega) w1).mono ?_
  rintro e w2 ⟨rfl, hb, -, hp⟩
  have HP2 := hide hp
  have HB2 := hide (below_step HB1.out hb)
  have HC2 := hide (Kd.C_below HC0.out HB2.out)
  clear hb hp HB1 HC0
  dsimp only
  go_wp2_with fail
  obtain ⟨K, hK⟩ : ∃ K, min xs.length (n - ([] : List Int).length) = K := ⟨_, rfl⟩
  obtain ⟨X, hX⟩ : ∃ X, ([] : List Int) ++ xs.take (n - ([] : List Int).length) = X := ⟨_, rfl⟩
  have hXL : X.length = K := by rw [← hX, ← hK]; simp [Nat.min_comm]
  have hkk : K = min xs.length n := by rw [← hK]; simp
  have HX := hide (show X = xs.take n by rw [← hX]; simp)
  have hfill := fillI n _ _ [] A c xs w2 HP2.out HC2.out
  rw [hK, hX] at hfill
  refine hfill.mono ?_
  rintro e w3 ⟨rfl, ht, hp, hc3⟩
  have HC3 := hide hc3
  have HP3 := hide hp
  have HB3 := hide (ht.below HB2.out HB2.out.size HLW.out)
  have HXL := hide hXL
  clear hfill ht hp HP2 HB2 HC2 hX hK hc3 hXL
  dsimp only
  have t1 : K ≤ n := by omega
  have t2 : K ≤ xs.length := by omega
  have ew : IntKind.i64.wrap ((n : Int) - (K : Int)) = ((n - K : Nat) : Int) := by rw [IntWalk.i64_in _ (by omega)]; omega
  by_cases hKn : K = n
  · subst hKn
    clear hkk ew t1
    have ew : IntKind.i64.wrap ((K : Int) - (K : Int)) = ((K - K : Nat) : Int) := by rw [IntWalk.i64_in _ (by omega)]; omega
    obtain ⟨x0, X1, rfl⟩ : ∃ x0 X1, X = x0 :: X1 := by
      match X, HXL with
      | [], h => have := h.out; simp at this; omega
      | x0 :: X1, _ => exact ⟨x0, X1, rfl⟩
    have hx0 : xs.getD 0 0 = x0 := by
      have := congrArg (fun l => l.getD 0 0) HX.out
      simp only [List.getD_cons_zero] at this
      rw [this, List.getD_eq_getElem?_getD, List.getD_eq_getElem?_getD, List.getElem?_take, if_pos (by omega)]
    have HX0 := hide hx0
    clear hx0
    rcases Nat.lt_or_ge K xs.length with t3 | t3
    all_goals (
      go_wp2_with fail
      refine (lenI K _ _ (x0 :: X1) w3 HP3.out).mono ?_
      rintro e w4 ⟨rfl, hb⟩
      rw [HXL.out]
      have HP4 := hide (HP3.out.below hb)
      have HB4 := hide (below_step HB3.out hb)
      have HC4 := hide (Kd.C_below HC3.out hb)
      clear hb HP3 HB3 HC3
      dsimp only
      go_wp2_with fail
      refine (roomI K _ _ (x0 :: X1) w4 HP4.out (by omega)).mono ?_
      rintro e w5 ⟨rfl, hb⟩
      rw [HXL.out]
      have HP5 := hide (HP4.out.below hb)
      have HB5 := hide (below_step HB4.out hb)
      have HC5 := hide (Kd.C_below HC4.out hb)
      clear hb HP4 HB4 HC4
      dsimp only
      go_wp2_with fail
      have hput := putI K _ _ (x0 :: X1) 7 w5 HP5.out
      rw [decide_eq_false (by rw [HXL.out]; omega), if_neg (by rw [HXL.out]; omega)] at hput
      refine hput.mono ?_
      rintro e w6 ⟨rfl, ht, hp⟩
      have HP6 := hide hp
      have HB6 := hide (ht.below HB5.out HB5.out.size HLW.out)
      have HC6 := hide (C_turn HP5.out ht 0 HC5.out)
      clear hp ht hput HP5 HB5 HC5
      dsimp only
      go_wp2_with fail
      refine (takeI K _ _ x0 X1 w6 HP6.out).mono ?_
      rintro e w7 ⟨rfl, ht, hp⟩
      have HP7 := hide hp
      have HB7 := hide (ht.below HB6.out HB6.out.size HLW.out)
      have hc7 := C_turn HP6.out ht 0 HC6.out
      obtain ⟨ad, rfl, h0⟩ := cell_at hc7 0 0 (by omega)
      rw [HX0.out] at h0
      have e0 : ad.add 0 = ad := by unfold Addr.add; split <;> simp_all
      have h00 := h0
      rw [e0] at h00
      clear e0
      clear hp ht HP6 HB6 HC6 hc7
      dsimp only
      have i0 : (0 : Int) < xs.length := by omega
      go_wp2_with fail
      have hput := putI K _ _ X1 7 w7 HP7.out
      have hX1 : X1.length + 1 = K := by have := HXL.out; simpa using this
      rw [decide_eq_true (by omega), if_pos (by omega)] at hput
      refine hput.mono ?_
      rintro e w8 ⟨rfl, ht, hp⟩
      have HP8 := hide hp
      have HB8 := hide (ht.below HB7.out HB7.out.size HLW.out)
      have HXL := hide (show (X1 ++ [(7 : Int)]).length = K by simp; omega)
      clear hp ht hput HP7 HB7 h0 h00 hX1
      dsimp only
      go_wp2_with fail
      refine (drainI K _ _ (X1 ++ [(7 : Int)]) w8 HP8.out (by omega)).mono ?_
      rintro e w20 ⟨v, rfl, hR, ht, hp⟩
      obtain ⟨A2, c2, rfl, -, -⟩ := Kd.R_reads hR
      rw [HXL.out]
      have HB20 := hide (ht.below HB8.out HB8.out.size HLW.out)
      have HP20 := hide hp
      clear ht hp hR HP8 HB8
      dsimp only
      go_wp2_with fail
      refine (lenI K _ _ [] w20 HP20.out).mono ?_
      rintro e w21 ⟨rfl, hb⟩
      have HP21 := hide (HP20.out.below hb)
      have HB21 := hide (below_step HB20.out hb)
      clear hb HP20 HB20
      dsimp only
      go_wp2_with fail
      refine (roomI K _ _ [] w21 HP21.out (by omega)).mono ?_
      rintro e w22 ⟨rfl, hb⟩
      have HB22 := hide (below_step HB21.out hb)
      clear hb HP21 HB21
      dsimp only
      simp only [List.length_nil, Nat.sub_zero]
      go_wp2_with fail
      refine (known _).mono ?_
      rintro e w23 ⟨rfl, hb⟩
      have HB23 := hide (below_step HB22.out hb)
      clear hb HB22
      dsimp only
      go_wp2_with fail
      go_ret
      exact ⟨rfl, HB23.out⟩)
  · have t3 : xs.length = K := by omega
    have t4 : ¬ K = n := hKn
    subst t3
    clear hkk t2
    go_wp2_with fail
    refine (lenI n _ _ X w3 HP3.out).mono ?_
    rintro e w4 ⟨rfl, hb⟩
    rw [HXL.out]
    have HP4 := hide (HP3.out.below hb)
    have HB4 := hide (below_step HB3.out hb)
    clear hb HP3 HB3
    dsimp only
    go_wp2_with fail
    refine (roomI n _ _ X w4 HP4.out (by omega)).mono ?_
    rintro e w5 ⟨rfl, hb⟩
    rw [HXL.out]
    have HP5 := hide (HP4.out.below hb)
    have HB5 := hide (below_step HB4.out hb)
    clear hb HP4 HB4
    dsimp only
    go_wp2_with fail
    refine (drainI n _ _ X w5 HP5.out (by omega)).mono ?_
    rintro e w20 ⟨v, rfl, hR, ht, hp⟩
    obtain ⟨A2, c2, rfl, -, -⟩ := Kd.R_reads hR
    rw [HXL.out]
    have HB20 := hide (ht.below HB5.out HB5.out.size HLW.out)
    have HP20 := hide hp
    clear ht hp hR HP5 HB5
    dsimp only
    go_wp2_with fail
    refine (lenI n _ _ [] w20 HP20.out).mono ?_
    rintro e w21 ⟨rfl, hb⟩
    have HP21 := hide (HP20.out.below hb)
    have HB21 := hide (below_step HB20.out hb)
    clear hb HP20 HB20
    dsimp only
    go_wp2_with fail
    refine (roomI n _ _ [] w21 HP21.out (by omega)).mono ?_
    rintro e w22 ⟨rfl, hb⟩
    have HB22 := hide (below_step HB21.out hb)
    clear hb HP21 HB21
    dsimp only
    simp only [List.length_nil, Nat.sub_zero]
    go_wp2_with fail
    refine (known _).mono ?_
    rintro e w23 ⟨rfl, hb⟩
    have HB23 := hide (below_step HB22.out hb)
    clear hb HB22
    dsimp only
    go_wp2_with fail
    go_ret
    exact ⟨rfl, HB23.out⟩
end Go.Proofs.Ytomfcaddlmkaoaa.Pipe
