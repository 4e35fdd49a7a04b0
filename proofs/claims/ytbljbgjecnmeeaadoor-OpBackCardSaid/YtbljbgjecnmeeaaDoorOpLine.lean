/- The walk of arbourlaw16.line: an operation as text, as the document tells it. -/
import Derived.Test.YtbljbgjecnmeeaaDoorOpDig
import Derived.Deep.QuietTactic
import Derived.BigQuiet
namespace Go.Proofs.YtbljbgjecnmeeaaDoor.OpP
open Go.RowKit Go.Proofs.YtbljbgjecnmeeaaDoor.POpTells Go.Proofs.YtbljbgjecnmeeaaDoorW.PrintWords Go.Proofs.YtbljbgjecnmeeaaDoorW.PrintLast
set_option linter.unusedVariables false
set_option linter.unusedSimpArgs false
theorem digL_len (n : Int) (h : I64 n) : (digL n).length ≤ 21 := by
  unfold digL
  split
  · decide
  · exact Lib.itoa_length_le n h.1 h.2
/-- The head of an operation's line. -/
def lineH (o : S24) : List UInt8 := digL o.f0 ++ [32] ++ digL o.f1 ++ [32] ++ digL o.f2 ++ [32] ++ digL o.f3 ++ [32] ++ digL o.f4 ++ [32] ++ digL o.f5 ++ [32] ++ bts o.f6
/-- An operation as text, as the document tells it. -/
def lineL (o : S24) : List UInt8 := lineH o ++ o.f7.flatMap attrSeg ++ ([32, 34] ++ bts o.f8 ++ [34])
theorem bts_app (a b : ByteArray) : bts (a ++ b) = bts a ++ bts b := by
  unfold bts
  rw [ByteArray.data_append, Array.toList_append]
theorem bts_size (a : ByteArray) : (bts a).length = a.size := by unfold bts; rw [Array.length_toList]; rfl
theorem of_bts {a : ByteArray} {l : List UInt8} (h : bts a = l) : a = ⟨l.toArray⟩ := by
  apply ByteArray.ext
  rw [← h]
  unfold bts
  simp
set_option maxHeartbeats 8000000 in
set_option maxRecDepth 100000 in
theorem line (o : S24) (A : Option Addr) (c : Nat) (w : World) (hC : k32.C w A o.f7.length o.f7) (hi : I64 o.f0 ∧ I64 o.f1 ∧ I64 o.f2 ∧ I64 o.f3 ∧ I64 o.f4 ∧ I64 o.f5) (hlen : (lineL o).length ≤ 100000000000) :
    Calls Tryd.prog 15 #[.agg #[.int .i64 o.f0, .int .i64 o.f1, .int .i64 o.f2, .int .i64 o.f3, .int .i64 o.f4, .int .i64 o.f5, .string o.f6, .slice A o.f7.length c, .string o.f8]] w fun e w' => e = .returned (.string ⟨(lineL o).toArray⟩) ∧ Below w.heap.size w w' := by
  obtain ⟨LL, hLL⟩ : ∃ L, lineL o = L := ⟨_, rfl⟩
  rw [hLL] at hlen ⊢
  obtain ⟨o0, o1, o2, o3, o4, o5, o6, o7, o8⟩ := o
  dsimp only at hC hi ⊢
  obtain ⟨d0, hd0⟩ : ∃ s : ByteArray, (⟨(digL o0).toArray⟩ : ByteArray) = s := ⟨_, rfl⟩
  have z0 : d0.size ≤ 21 := by rw [← hd0]; exact digL_len o0 hi.1
  have b0 : bts d0 = digL o0 := by rw [← hd0]; exact mk_data _
  have HD0 := hide (fun W => digits o0 hi.1 W)
  rw [hd0] at HD0
  obtain ⟨d1, hd1⟩ : ∃ s : ByteArray, (⟨(digL o1).toArray⟩ : ByteArray) = s := ⟨_, rfl⟩
  have z1 : d1.size ≤ 21 := by rw [← hd1]; exact digL_len o1 hi.2.1
  have b1 : bts d1 = digL o1 := by rw [← hd1]; exact mk_data _
  have HD1 := hide (fun W => digits o1 hi.2.1 W)
  rw [hd1] at HD1
  obtain ⟨d2, hd2⟩ : ∃ s : ByteArray, (⟨(digL o2).toArray⟩ : ByteArray) = s := ⟨_, rfl⟩
  have z2 : d2.size ≤ 21 := by rw [← hd2]; exact digL_len o2 hi.2.2.1
  have b2 : bts d2 = digL o2 := by rw [← hd2]; exact mk_data _
  have HD2 := hide (fun W => digits o2 hi.2.2.1 W)
  rw [hd2] at HD2
  obtain ⟨d3, hd3⟩ : ∃ s : ByteArray, (⟨(digL o3).toArray⟩ : ByteArray) = s := ⟨_, rfl⟩
  have z3 : d3.size ≤ 21 := by rw [← hd3]; exact digL_len o3 hi.2.2.2.1
  have b3 : bts d3 = digL o3 := by rw [← hd3]; exact mk_data _
  have HD3 := hide (fun W => digits o3 hi.2.2.2.1 W)
  rw [hd3] at HD3
  obtain ⟨d4, hd4⟩ : ∃ s : ByteArray, (⟨(digL o4).toArray⟩ : ByteArray) = s := ⟨_, rfl⟩
  have z4 : d4.size ≤ 21 := by rw [← hd4]; exact digL_len o4 hi.2.2.2.2.1
  have b4 : bts d4 = digL o4 := by rw [← hd4]; exact mk_data _
  have HD4 := hide (fun W => digits o4 hi.2.2.2.2.1 W)
  rw [hd4] at HD4
  obtain ⟨d5, hd5⟩ : ∃ s : ByteArray, (⟨(digL o5).toArray⟩ : ByteArray) = s := ⟨_, rfl⟩
  have z5 : d5.size ≤ 21 := by rw [← hd5]; exact digL_len o5 hi.2.2.2.2.2
  have b5 : bts d5 = digL o5 := by rw [← hd5]; exact mk_data _
  have HD5 := hide (fun W => digits o5 hi.2.2.2.2.2 W)
  rw [hd5] at HD5
  have hH : lineH ⟨o0, o1, o2, o3, o4, o5, o6, o7, o8⟩ = bts d0 ++ [32] ++ bts d1 ++ [32] ++ bts d2 ++ [32] ++ bts d3 ++ [32] ++ bts d4 ++ [32] ++ bts d5 ++ [32] ++ bts o6 := by
    unfold lineH
    rw [b0, b1, b2, b3, b4, b5]
  have hsz : (lineH ⟨o0, o1, o2, o3, o4, o5, o6, o7, o8⟩).length + (o7.flatMap attrSeg).length + (3 + o8.size) ≤ 100000000000 := by
    rw [← hLL] at hlen
    unfold lineL at hlen
    simp only [List.length_append, List.length_cons, List.length_nil, bts_size] at hlen
    omega
  have h6 : o6.size ≤ 100000000000 := by
    rw [hH] at hsz
    simp only [List.length_append, List.length_cons, List.length_nil, bts_size] at hsz
    omega
  have n0 : ¬ 9223372036854775807 < d0.size + 1 := by omega
  have n1 : ¬ 9223372036854775807 < d0.size + 1 + d1.size := by omega
  have n2 : ¬ 9223372036854775807 < d0.size + 1 + d1.size + 1 := by omega
  have n3 : ¬ 9223372036854775807 < d0.size + 1 + d1.size + 1 + d2.size := by omega
  have n4 : ¬ 9223372036854775807 < d0.size + 1 + d1.size + 1 + d2.size + 1 := by omega
  have n5 : ¬ 9223372036854775807 < d0.size + 1 + d1.size + 1 + d2.size + 1 + d3.size := by omega
  have n6 : ¬ 9223372036854775807 < d0.size + 1 + d1.size + 1 + d2.size + 1 + d3.size + 1 := by omega
  have n7 : ¬ 9223372036854775807 < d0.size + 1 + d1.size + 1 + d2.size + 1 + d3.size + 1 + d4.size := by omega
  have n8 : ¬ 9223372036854775807 < d0.size + 1 + d1.size + 1 + d2.size + 1 + d3.size + 1 + d4.size + 1 := by omega
  have n9 : ¬ 9223372036854775807 < d0.size + 1 + d1.size + 1 + d2.size + 1 + d3.size + 1 + d4.size + 1 + d5.size := by omega
  have n10 : ¬ 9223372036854775807 < d0.size + 1 + d1.size + 1 + d2.size + 1 + d3.size + 1 + d4.size + 1 + d5.size + 1 := by omega
  have n11 : ¬ 9223372036854775807 < d0.size + 1 + d1.size + 1 + d2.size + 1 + d3.size + 1 + d4.size + 1 + d5.size + 1 + o6.size := by omega
  have HH := hide hH
  have HSZ := hide hsz
  have HLL := hide hLL
  have ho7 := hC.2.1
  unfold maxLen at ho7
  have HO7 := hide ho7
  have hX := heap_alloc_new w (.cells #[.int .i64 o0, .int .i64 o1, .int .i64 o2, .int .i64 o3, .int .i64 o4, .int .i64 o5, .string o6, .slice A o7.length c, .string o8] 24)
  have b1w := below_alloc (Below.refl w.heap.size w) (.cells #[.int .i64 o0, .int .i64 o1, .int .i64 o2, .int .i64 o3, .int .i64 o4, .int .i64 o5, .string o6, .slice A o7.length c, .string o8] 24)
  obtain ⟨w1, hw1⟩ : ∃ w1, w.alloc (.cells #[.int .i64 o0, .int .i64 o1, .int .i64 o2, .int .i64 o3, .int .i64 o4, .int .i64 o5, .string o6, .slice A o7.length c, .string o8] 24) = w1 := ⟨_, rfl⟩
  rw [hw1] at hX b1w
  have HX := hide hX
  have HC := hide (Kd.C_below hC b1w)
  have HB := hide b1w
  have HW1 := hide hw1
  have c0 : w1.cell? ⟨w.heap.size, 0, none⟩ = some (.int .i64 o0) := cell_of_row _ _ 0 _ _ _ hX
  have c1 : w1.cell? ⟨w.heap.size, 1, none⟩ = some (.int .i64 o1) := cell_of_row _ _ 1 _ _ _ hX
  have c2 : w1.cell? ⟨w.heap.size, 2, none⟩ = some (.int .i64 o2) := cell_of_row _ _ 2 _ _ _ hX
  have c3 : w1.cell? ⟨w.heap.size, 3, none⟩ = some (.int .i64 o3) := cell_of_row _ _ 3 _ _ _ hX
  have c4 : w1.cell? ⟨w.heap.size, 4, none⟩ = some (.int .i64 o4) := cell_of_row _ _ 4 _ _ _ hX
  have c5 : w1.cell? ⟨w.heap.size, 5, none⟩ = some (.int .i64 o5) := cell_of_row _ _ 5 _ _ _ hX
  have c6 : w1.cell? ⟨w.heap.size, 6, none⟩ = some (.string o6) := cell_of_row _ _ 6 _ _ _ hX
  have c7 : w1.cell? ⟨w.heap.size, 7, none⟩ = some (.slice A o7.length c) := cell_of_row _ _ 7 _ _ _ hX
  have c8 : w1.cell? ⟨w.heap.size, 8, none⟩ = some (.string o8) := cell_of_row _ _ 8 _ _ _ hX
  clear hd0 hd1 hd2 hd3 hd4 hd5 z0 z1 z2 z3 z4 z5 b0 b1 b2 b3 b4 b5 hH hsz hLL hlen h6 hC hi hX b1w hw1 ho7
  go_enter Tryd.func15, Tryd.ntmps15
  go_upto_region 1 with fail
  rw [HW1.out]
  go_cut [3] from 5 to 36 (fun v wx => ∃ sb : ByteArray, v = .string sb ∧ bts sb = lineH ⟨o0, o1, o2, o3, o4, o5, o6, o7, o8⟩ ∧ wx.heap[w.heap.size]? = some (.cells #[.int .i64 o0, .int .i64 o1, .int .i64 o2, .int .i64 o3, .int .i64 o4, .int .i64 o5, .string o6, .slice A o7.length c, .string o8] 24 (0, 0)) ∧ Below w1.heap.size w1 wx)
  case first =>
    go_quiet ((first | (go_at_call 34; (with_reducible refine (HD0.out _).mono ?_); rintro e w' ⟨rfl, rfl⟩; exact ⟨rfl, _, rfl⟩) | (go_at_call 34; (with_reducible refine (HD1.out _).mono ?_); rintro e w' ⟨rfl, rfl⟩; exact ⟨rfl, _, rfl⟩) | (go_at_call 34; (with_reducible refine (HD2.out _).mono ?_); rintro e w' ⟨rfl, rfl⟩; exact ⟨rfl, _, rfl⟩) | (go_at_call 34; (with_reducible refine (HD3.out _).mono ?_); rintro e w' ⟨rfl, rfl⟩; exact ⟨rfl, _, rfl⟩) | (go_at_call 34; (with_reducible refine (HD4.out _).mono ?_); rintro e w' ⟨rfl, rfl⟩; exact ⟨rfl, _, rfl⟩) | (go_at_call 34; (with_reducible refine (HD5.out _).mono ?_); rintro e w' ⟨rfl, rfl⟩; exact ⟨rfl, _, rfl⟩)))
    go_wp2_with fail
    go_meet
    have hb := fun m => pw_below_drewN (Below.refl w1.heap.size w1) m
    refine ⟨_, rfl, ?_, ((hb _).block _ (blk_lt HX.out)).trans HX.out, hb _⟩
    rw [HH.out]
    simp only [bts_app]
    rfl
  case rest =>
    obtain ⟨sb, rfl, hsb, hx, hb⟩ := hcut
    have HX2 := hide hx
    have HB2 := hide hb
    have HSB := hide hsb
    clear hsb hx hb HD0 HD1 HD2 HD3 HD4 HD5 HX HW1 n0 n1 n2 n3 n4 n5 n6 n7 n8 n9 n10 n11 c0 c1 c2 c3 c4 c5 c6 c7 c8
    have ho7 := HO7.out
    go_wp2_with fail
    go_loopw [3, 4] (fun v i wr => ∃ (k : Nat) (s : ByteArray), v = .string s ∧ i = .int .i64 (k : Int) ∧ k ≤ o7.length ∧ Aside0 (bts s = lineH ⟨o0, o1, o2, o3, o4, o5, o6, o7, o8⟩ ++ (o7.take k).flatMap attrSeg) ∧ Aside0 (wr.heap[w.heap.size]? = some (.cells #[.int .i64 o0, .int .i64 o1, .int .i64 o2, .int .i64 o3, .int .i64 o4, .int .i64 o5, .string o6, .slice A o7.length c, .string o8] 24 (0, 0))) ∧ Aside0 (Below w1.heap.size w1 wr)) (fun _ i _ => o7.length - (intOf i).toNat)
    case atStart => exact ⟨0, sb, rfl, rfl, Nat.zero_le _, ⟨by rw [HSB.out, List.take_zero, List.flatMap_nil, List.append_nil]⟩, ⟨HX2.out⟩, ⟨HB2.out⟩⟩
    case round =>
      clear HSB HX2 HB2 sb
      obtain ⟨k, s, rfl, rfl, hk, HS, HX, HBR⟩ := hrel
      have hxr := HX.out
      have c7r := cell_of_row _ _ 7 _ _ _ hxr
      have c8r := cell_of_row _ _ 8 _ _ _ hxr
      have hl0 := attrs_len o7 k hk
      have hss : s.size ≤ 100000000000 - (3 + o8.size) := by
        have h1 := HSZ.out
        have h2 := congrArg List.length HS.out
        rw [bts_size, List.length_append] at h2
        omega
      have h38 : 3 + o8.size ≤ 100000000000 := by have := HSZ.out; omega
      clear hxr
      by_cases hlt : k < o7.length
      · obtain ⟨ad, hA, e0, e1⟩ := at_T32 (Kd.C_below HC.out HBR.out) (k : Int) (by omega) (by omega)
        rw [Int.toNat_natCast] at e0 e1
        have hx : rd_T32 o7 (k : Int) = o7[k] := by
          unfold rd_T32
          rw [Int.toNat_natCast, List.getD_eq_getElem?_getD, List.getElem?_eq_getElem hlt]
          rfl
        have hst := attrs_take o7 k hlt
        have hle := attrs_len o7 (k + 1) (by omega)
        rw [hst, List.length_append] at hle
        rw [hx] at e0 e1
        obtain ⟨⟨x0, x1⟩, hx'⟩ : ∃ x, o7[k] = x := ⟨_, rfl⟩
        rw [hx'] at hst hle e0 e1
        dsimp only at e0 e1
        have hln : s.size + (2 + x0.size + x1.size) ≤ 100000000000 := by
          have h1 := HSZ.out
          have h2 := congrArg List.length HS.out
          rw [bts_size, List.length_append] at h2
          unfold attrSeg at hle
          simp only [List.length_append, List.length_cons, List.length_nil, bts_size] at hle
          unfold attrSeg at h1 h2
          omega
        have HST := hide hst
        have k1 : (k : Int) < (o7.length : Int) := by omega
        have k2 : (0 : Int) ≤ (k : Int) := by omega
        have n0 : ¬ 9223372036854775807 < s.size + 1 := by omega
        have n1 : ¬ 9223372036854775807 < s.size + 1 + x0.size := by omega
        have n2 : ¬ 9223372036854775807 < s.size + 1 + x0.size + 1 := by omega
        have n3 : ¬ 9223372036854775807 < s.size + 1 + x0.size + 1 + x1.size := by omega
        subst hA
        clear hx hx' hst hle hln hss h38 hl0
        go_wp2_with fail
        go_quiet (fail)
        have HBN := hide (fun m => pw_below_drewN (Below.refl wr.heap.size wr) m)
        go_wp2_with fail
        go_roundw
        case rel =>
          refine ⟨k + 1, _, rfl, by go_num, by omega, ⟨?_⟩, ⟨((HBN.out _).block _ (blk_lt HX.out)).trans HX.out⟩, ⟨below_step HBR.out (HBN.out _)⟩⟩
          rw [HST.out, ← List.append_assoc, ← HS.out]
          unfold attrSeg
          simp only [bts_app, List.append_assoc]
          rfl
        case measure => simp only [intOf]; omega
      · have hkl : k = o7.length := by omega
        have hfin : bts s ++ ([32, 34] ++ bts o8 ++ [34]) = LL := by
          rw [HS.out, hkl, List.take_length, ← HLL.out]
          rfl
        have HF := hide hfin
        have k1 : ¬ (k : Int) < (o7.length : Int) := by omega
        have n0 : ¬ 9223372036854775807 < s.size + 2 := by omega
        have n1 : ¬ 9223372036854775807 < s.size + 2 + o8.size := by omega
        have n2 : ¬ 9223372036854775807 < s.size + 2 + o8.size + 1 := by omega
        clear hkl hfin hss h38 hl0 hlt hk
        go_wp2_with fail
        go_ret
        refine ⟨?_, below_step HB.out HBR.out⟩
        have e : bts (((s ++ ⟨#[32, 34]⟩) ++ o8) ++ ⟨#[34]⟩) = LL := by
          rw [← HF.out]
          simp only [bts_app, List.append_assoc]
          rfl
        rw [← of_bts e]
        rfl
end Go.Proofs.YtbljbgjecnmeeaaDoor.OpP
