/- The walk of arbourref14.line: a node as a line. The walks of arbourref14.show and Show: a tree, a line for each node below it. -/
import Derived.Test.YtaponaemgolmoaaTrShow
import Derived.BigQuiet
import Derived.Deep.QuietTactic
import Derived.Test.YtaponaemgolmoaaTrEq
namespace Go.Proofs.Ytaponaemgolmoaa.Tr
open Go.RowKit Go.Proofs.Ytaponaemgolmoaa.PTreeTells Go.Proofs.YtaponaemgolmoaaW.PrintWords Go.Proofs.YtaponaemgolmoaaW.PrintLast
set_option linter.unusedVariables false
set_option linter.unusedSimpArgs false
set_option maxHeartbeats 8000000 in
set_option maxRecDepth 100000 in
theorem rline_no (x : S26) (A3 : Option Addr) (c3 : Nat) (A5 : Option Addr) (c5 : Nat) (w : World) (hk : x.f0 ≠ 3) (hlen : (lineL x).length ≤ 1000000000000) :
    Calls Try.prog 63 #[.agg #[.int .i64 x.f0, .int .i64 x.f1, .string x.f2, .slice A3 x.f3.length c3, .string x.f4, .slice A5 x.f5.length c5]] w fun e w' => e = .returned (.string ⟨(lineL x).toArray⟩) ∧ Below w.heap.size w w' := by
  have hX := heap_alloc_new w (.cells #[.int .i64 x.f0, .int .i64 x.f1, .string x.f2, .slice A3 x.f3.length c3, .string x.f4, .slice A5 x.f5.length c5] 26)
  have b1 := below_alloc (Below.refl w.heap.size w) (.cells #[.int .i64 x.f0, .int .i64 x.f1, .string x.f2, .slice A3 x.f3.length c3, .string x.f4, .slice A5 x.f5.length c5] 26)
  obtain ⟨w1, hw1⟩ : ∃ y, w.alloc (.cells #[.int .i64 x.f0, .int .i64 x.f1, .string x.f2, .slice A3 x.f3.length c3, .string x.f4, .slice A5 x.f5.length c5] 26) = y := ⟨_, rfl⟩
  rw [hw1] at hX b1
  have h0 := cell_of_row _ _ 0 _ _ _ hX
  have h2 := cell_of_row _ _ 2 _ _ _ hX
  have h4 := cell_of_row _ _ 4 _ _ _ hX
  have HB := hide b1
  have HW1 := hide hw1
  clear hX b1 hw1
  obtain ⟨x0, x1, x2, x3, x4, x5⟩ := x
  dsimp only at h0 h2 h4 hk HW1 ⊢
  by_cases k2 : x0 = 2
  · subst k2
    have hL : lineL ⟨2, x1, x2, x3, x4, x5⟩ = [60, 33] ++ bts x2 ++ [62] := rfl
    rw [hL] at hlen ⊢
    have hz : x2.size ≤ 1000000000000 := by rw [List.length_append, List.length_append, bts_size] at hlen; omega
    clear hL hlen
    go_enter Try.func63, Try.ntmps63
    go_upto_region 1 with fail
    rw [HW1.out]
    go_wp2_with fail
    go_ret
    exact ⟨congrArg (fun s => Ending.returned (Value.string s)) (of_bts (by simp only [bts_app]; rfl)), HB.out⟩
  by_cases k4 : x0 = 4
  · subst k4
    have hL : lineL ⟨4, x1, x2, x3, x4, x5⟩ = [34] ++ bts x4 ++ [34] := rfl
    rw [hL] at hlen ⊢
    have hz : x4.size ≤ 1000000000000 := by rw [List.length_append, List.length_append, bts_size] at hlen; omega
    clear hL hlen
    go_enter Try.func63, Try.ntmps63
    go_upto_region 1 with fail
    rw [HW1.out]
    go_wp2_with fail
    go_ret
    exact ⟨congrArg (fun s => Ending.returned (Value.string s)) (of_bts (by simp only [bts_app]; rfl)), HB.out⟩
  by_cases k5 : x0 = 5
  · subst k5
    have hL : lineL ⟨5, x1, x2, x3, x4, x5⟩ = [60, 33, 45, 45, 32] ++ bts x4 ++ [32, 45, 45, 62] := rfl
    rw [hL] at hlen ⊢
    have hz : x4.size ≤ 1000000000000 := by rw [List.length_append, List.length_append, bts_size] at hlen; omega
    clear hL hlen
    go_enter Try.func63, Try.ntmps63
    go_upto_region 1 with fail
    rw [HW1.out]
    go_wp2_with fail
    go_ret
    exact ⟨congrArg (fun s => Ending.returned (Value.string s)) (of_bts (by simp only [bts_app]; rfl)), HB.out⟩
  by_cases k6 : x0 = 6
  · subst k6
    have hL : lineL ⟨6, x1, x2, x3, x4, x5⟩ = [99, 111, 110, 116, 101, 110, 116] := rfl
    rw [hL]
    clear hL hlen
    go_enter Try.func63, Try.ntmps63
    go_upto_region 1 with fail
    rw [HW1.out]
    go_wp2_with fail
    go_ret
    exact ⟨rfl, HB.out⟩
  · have hL : lineL ⟨x0, x1, x2, x3, x4, x5⟩ = [63] := by unfold lineL; rw [if_neg k2, if_neg hk, if_neg k4, if_neg k5, if_neg k6]
    rw [hL]
    have b2 : (x0 == 2) = false := beq_eq_false_iff_ne.2 k2
    have b3 : (x0 == 3) = false := beq_eq_false_iff_ne.2 hk
    have b4 : (x0 == 4) = false := beq_eq_false_iff_ne.2 k4
    have b5 : (x0 == 5) = false := beq_eq_false_iff_ne.2 k5
    have b6 : (x0 == 6) = false := beq_eq_false_iff_ne.2 k6
    clear hL hlen
    go_enter Try.func63, Try.ntmps63
    go_upto_region 1 with fail
    rw [HW1.out]
    go_wp2_with fail
    go_ret
    exact ⟨rfl, HB.out⟩
set_option maxHeartbeats 8000000 in
set_option maxRecDepth 100000 in
theorem rline_el (x : S26) (A3 : Option Addr) (c3 : Nat) (A5 : Option Addr) (c5 : Nat) (w : World) (g3 : k33.C w A3 x.f3.length x.f3) (hk : x.f0 = 3) (hlen : (lineL x).length ≤ 1000000000000) :
    Calls Try.prog 63 #[.agg #[.int .i64 x.f0, .int .i64 x.f1, .string x.f2, .slice A3 x.f3.length c3, .string x.f4, .slice A5 x.f5.length c5]] w fun e w' => e = .returned (.string ⟨(lineL x).toArray⟩) ∧ Below w.heap.size w w' := by
  have hX := heap_alloc_new w (.cells #[.int .i64 x.f0, .int .i64 x.f1, .string x.f2, .slice A3 x.f3.length c3, .string x.f4, .slice A5 x.f5.length c5] 26)
  have b1 := below_alloc (Below.refl w.heap.size w) (.cells #[.int .i64 x.f0, .int .i64 x.f1, .string x.f2, .slice A3 x.f3.length c3, .string x.f4, .slice A5 x.f5.length c5] 26)
  obtain ⟨w1, hw1⟩ : ∃ y, w.alloc (.cells #[.int .i64 x.f0, .int .i64 x.f1, .string x.f2, .slice A3 x.f3.length c3, .string x.f4, .slice A5 x.f5.length c5] 26) = y := ⟨_, rfl⟩
  rw [hw1] at hX b1
  have h0 := cell_of_row _ _ 0 _ _ _ hX
  have h1 := cell_of_row _ _ 1 _ _ _ hX
  have h2 := cell_of_row _ _ 2 _ _ _ hX
  have h3 := cell_of_row _ _ 3 _ _ _ hX
  have g3' := Kd.C_below g3 b1
  obtain ⟨x0, x1, x2, x3, x4, x5⟩ := x
  dsimp only at *
  subst hk
  have HX := hide hX
  have HB := hide b1
  have HW1 := hide hw1
  have hL : lineL ⟨3, x1, x2, x3, x4, x5⟩ = elemH ⟨3, x1, x2, x3, x4, x5⟩ ++ x3.flatMap segA ++ [62] := rfl
  rw [hL] at hlen ⊢
  have hm3 := g3.2.1
  have HG3 := hide g3'
  have hE : elemH ⟨3, x1, x2, x3, x4, x5⟩ = [60] ++ (if x1 = 2 then [115, 118, 103, 58] else []) ++ bts x2 := rfl
  have hz2 : x2.size ≤ 1000000000000 := by
    rw [hE] at hlen
    simp only [List.length_append, bts_size] at hlen
    omega
  obtain ⟨HD, hHD⟩ : ∃ l, elemH ⟨3, x1, x2, x3, x4, x5⟩ = l := ⟨_, rfl⟩
  rw [hHD] at hE hlen ⊢
  have HHD := hide hE
  have hlh : HD.length + (x3.flatMap segA).length + 1 ≤ 1000000000000 := by simp only [List.length_append, List.length_singleton] at hlen; omega
  have HLH := hide hlh
  clear hL hlen hE hHD g3 g3' hlh hw1 hX b1
  go_enter Try.func63, Try.ntmps63
  go_upto_region 1 with fail
  rw [HW1.out]
  clear HW1
  go_upto_if 31 with fail
  go_cut [3] from 29 to 31 (fun v3 wx => wx = w1 ∧ v3 = .string (⟨#[60]⟩ ++ (if x1 = 2 then ⟨#[115, 118, 103, 58]⟩ else ⟨#[]⟩)))
  case first =>
    by_cases hx1 : x1 = 2
    · subst hx1
      go_wp2_with fail
      go_meet
      exact ⟨rfl, rfl⟩
    · have hxb : (x1 == 2) = false := beq_eq_false_iff_ne.2 hx1
      go_wp2_with fail
      go_meet
      rw [if_neg hx1]
      exact ⟨rfl, rfl⟩
  case rest =>
    obtain ⟨hwc, rfl⟩ := hcut
    rw [hwc]
    clear hwc
    obtain ⟨S0, hS0⟩ : ∃ S, (⟨#[60]⟩ : ByteArray) ++ (if x1 = 2 then (⟨#[115, 118, 103, 58]⟩ : ByteArray) else ⟨#[]⟩) = S := ⟨_, rfl⟩
    have hb0 : bts S0 ++ bts x2 = HD := by
      rw [← hS0, HHD.out, bts_app]
      split <;> rfl
    have hs0 : S0.size ≤ 10 := by
      rw [← bts_size, ← hS0, bts_app]
      split <;> decide
    rw [hS0]
    have HBS := hide (show bts (S0 ++ x2) = HD from by rw [bts_app]; exact hb0)
    clear hS0 hb0
    obtain ⟨n, hn⟩ : ∃ n, x3.length = n := ⟨_, rfl⟩
    rw [hn] at h3 hm3 HX
    have HN := hide hn
    clear hn
    go_wp2_with fail
    go_loopw [3, 4] (fun v i wr => ∃ k : Nat, k ≤ n ∧ i = .int .i64 (k : Int) ∧ ∃ S, v = .string S ∧ Aside0 (bts S = HD ++ (x3.take k).flatMap segA) ∧ Aside0 (Below w1.heap.size w1 wr)) (fun _ i _ => n - (intOf i).toNat)
    case atStart => exact ⟨0, Nat.zero_le _, rfl, S0 ++ x2, rfl, ⟨by rw [List.take_zero, List.flatMap_nil, List.append_nil]; exact HBS.out⟩, ⟨Below.refl _ _⟩⟩
    case round =>
      obtain ⟨k, hkn, rfl, S, rfl, hS, hbr⟩ := hrel
      have HS := hide hS.out
      have HBr := hide hbr.out
      clear hS hbr HBS h0 h1 h2
      have h3' := cellW h3 HBr.out
      have hln := seg_len x3 k (by rw [HN.out]; exact hkn)
      have hSz : S.size ≤ 1000000000000 := by rw [← bts_size, HS.out, List.length_append]; have := HLH.out; omega
      by_cases hlt : k < n
      · have hkl : k < x3.length := by rw [HN.out]; exact hlt
        obtain ⟨ax, hA3, e0, e1⟩ := at_T33 (Kd.C_below HG3.out HBr.out) (k : Int) (by omega) (by rw [HN.out]; omega)
        rw [Int.toNat_natCast] at e0 e1
        have hxx : rd_T33 x3 (k : Int) = x3[k] := by
          unfold rd_T33
          rw [Int.toNat_natCast, List.getD_eq_getElem?_getD, List.getElem?_eq_getElem hkl]
          rfl
        have hst := seg_take x3 k hkl
        have hl2 := seg_len x3 (k + 1) (by omega)
        rw [hst, List.length_append] at hl2
        rw [hxx] at e0 e1
        obtain ⟨⟨a, b⟩, hx'⟩ : ∃ y, x3[k] = y := ⟨_, rfl⟩
        rw [hx'] at e0 e1 hst hl2
        dsimp only at e0 e1
        have hza : a.size ≤ 1000000000000 := by
          have := HLH.out
          have hsg : (segA ⟨a, b⟩).length = 1 + a.size + 2 + b.size + 1 := by unfold segA; simp only [List.length_append, bts_size]; rfl
          omega
        have hzb : b.size ≤ 1000000000000 := by
          have := HLH.out
          have hsg : (segA ⟨a, b⟩).length = 1 + a.size + 2 + b.size + 1 := by unfold segA; simp only [List.length_append, bts_size]; rfl
          omega
        have HST := hide hst
        have hk1 : (k : Int) < n := by omega
        have HNX := hide (show bts (S ++ ⟨#[32]⟩ ++ a ++ ⟨#[61, 34]⟩ ++ b ++ ⟨#[34]⟩) = HD ++ (x3.take (k + 1)).flatMap segA from by
          rw [hst]
          simp only [bts_app, HS.out]
          unfold segA
          simp only [List.append_assoc]
          rfl)
        have z1 : ¬ 9223372036854775807 < S.size + 1 := by omega
        have z2 : ¬ 9223372036854775807 < S.size + 1 + a.size := by omega
        have z3 : ¬ 9223372036854775807 < S.size + 1 + a.size + 2 := by omega
        have z4 : ¬ 9223372036854775807 < S.size + 1 + a.size + 2 + b.size := by omega
        have z5 : ¬ 9223372036854775807 < S.size + 1 + a.size + 2 + b.size + 1 := by omega
        subst hA3
        clear hst hl2 hx' hxx hln hkl h3
        go_wp2_with fail
        go_quiet (fail)
        go_wp2_with fail
        go_roundw
        case rel => exact ⟨k + 1, by omega, by go_num, _, rfl, ⟨HNX.out⟩, ⟨pw_below_drewN HBr.out _⟩⟩
        case measure => simp only [intOf]; omega
      · have hke : k = n := by omega
        subst hke
        have hk1 : ¬ (k : Int) < k := by omega
        have HFIN := hide (show bts (S ++ ⟨#[62]⟩) = HD ++ (x3.flatMap segA ++ [62]) from by
          rw [bts_app, HS.out, ← List.append_assoc, List.take_of_length_le (by rw [HN.out]; exact Nat.le_refl _)]
          rfl)
        clear hlt hln h3
        go_wp2_with fail
        go_ret
        exact ⟨congrArg (fun s => Ending.returned (Value.string s)) (of_bts HFIN.out), below_step HB.out HBr.out⟩
theorem rline (x : S26) (A3 : Option Addr) (c3 : Nat) (A5 : Option Addr) (c5 : Nat) (w : World) (g3 : k33.C w A3 x.f3.length x.f3) (hlen : (lineL x).length ≤ 1000000000000) :
    Calls Try.prog 63 #[.agg #[.int .i64 x.f0, .int .i64 x.f1, .string x.f2, .slice A3 x.f3.length c3, .string x.f4, .slice A5 x.f5.length c5]] w fun e w' => e = .returned (.string ⟨(lineL x).toArray⟩) ∧ Below w.heap.size w w' := by
  by_cases hk : x.f0 = 3
  · exact rline_el x A3 c3 A5 c5 w g3 hk hlen
  · exact rline_no x A3 c3 A5 c5 w hk hlen
end Go.Proofs.Ytaponaemgolmoaa.Tr
namespace Go.Proofs.Ytaponaemgolmoaa.Tr
open Go.RowKit Go.Proofs.Ytaponaemgolmoaa.PTreeTells Go.Proofs.YtaponaemgolmoaaW.PrintWords Go.Proofs.YtaponaemgolmoaaW.PrintLast
set_option linter.unusedVariables false
set_option linter.unusedSimpArgs false
mutual
/-- What 'show' tells. -/
def showR : S26 → List UInt8 → List UInt8
  | ⟨_, _, _, _, _, k⟩, i => showRK k i
def showRK : List S26 → List UInt8 → List UInt8
  | [], _ => []
  | x :: l, i => (i ++ (lineL x ++ ([10] ++ showR x (i ++ [32, 32])))) ++ showRK l i
end
theorem showR_eq (t : S26) (i : List UInt8) : showR t i = showRK t.f5 i := by
  obtain ⟨a, b, c, d, e, k⟩ := t
  rw [showR]
theorem showRK_app (i : List UInt8) : ∀ l m : List S26, showRK (l ++ m) i = showRK l i ++ showRK m i
  | [], m => by rw [showRK]; rfl
  | x :: l, m => by rw [List.cons_append, showRK, showRK, showRK_app i l m]; simp only [List.append_assoc]
theorem showRK_take (i : List UInt8) (l : List S26) (k : Nat) (h : k < l.length) : showRK (l.take (k + 1)) i = showRK (l.take k) i ++ (i ++ (lineL l[k] ++ ([10] ++ showR l[k] (i ++ [32, 32])))) := by
  rw [List.take_succ_eq_append_getElem h, showRK_app, showRK, showRK, List.append_nil]
theorem showRK_len (i : List UInt8) (l : List S26) (k : Nat) : (showRK (l.take k) i).length ≤ (showRK l i).length := by
  have : showRK l i = showRK (l.take k) i ++ showRK (l.drop k) i := by rw [← showRK_app, List.take_append_drop]
  rw [this, List.length_append]
  omega
set_option maxHeartbeats 8000000 in
set_option maxRecDepth 100000 in
theorem rshow : ∀ (N : Nat) (t : S26) (A3 : Option Addr) (c3 : Nat) (A5 : Option Addr) (c5 : Nat) (I : ByteArray) (w : World), W t ≤ N → k26.C w A5 t.f5.length t.f5 → I.size + 2 * W t ≤ 1000000000 → (showR t (bts I)).length ≤ 1000000000000 →
    Calls Try.prog 41 #[.agg #[.int .i64 t.f0, .int .i64 t.f1, .string t.f2, .slice A3 t.f3.length c3, .string t.f4, .slice A5 t.f5.length c5], .string I] w fun e w' => ∃ R, e = .returned (.string R) ∧ bts R = showR t (bts I) ∧ Below w.heap.size w w' := by
  intro N
  induction N with
  | zero => intro t A3 c3 A5 c5 I w hW; have := W_eq t; omega
  | succ N ih =>
    intro t A3 c3 A5 c5 I w hW g5 hI hlen
    have hX := heap_alloc_new w (.cells #[.int .i64 t.f0, .int .i64 t.f1, .string t.f2, .slice A3 t.f3.length c3, .string t.f4, .slice A5 t.f5.length c5] 26)
    have b1 := below_alloc (Below.refl w.heap.size w) (.cells #[.int .i64 t.f0, .int .i64 t.f1, .string t.f2, .slice A3 t.f3.length c3, .string t.f4, .slice A5 t.f5.length c5] 26)
    obtain ⟨w1, hw1⟩ : ∃ y, w.alloc (.cells #[.int .i64 t.f0, .int .i64 t.f1, .string t.f2, .slice A3 t.f3.length c3, .string t.f4, .slice A5 t.f5.length c5] 26) = y := ⟨_, rfl⟩
    rw [hw1] at hX b1
    have h5 := cell_of_row _ _ 5 _ _ _ hX
    have HG5 := hide (Kd.C_below g5 b1)
    have hm5 := g5.2.1
    have HB := hide b1
    have HW1 := hide hw1
    have HX := hide hX
    have HI := hide hI
    have hWt := W_eq t
    have hr := showR_eq t (bts I)
    rw [hr] at hlen ⊢
    obtain ⟨t0, t1, t2, t3, t4, t5⟩ := t
    dsimp only at *
    have HIH := hide ih
    have HLEN := hide hlen
    have HWT := hide (show WK t5 ≤ N ∧ I.size + 2 * (1 + WK t5) ≤ 1000000000 from ⟨by omega, by rw [← hWt]; exact hI⟩)
    clear ih hW g5 hI hX b1 hw1 hWt hr hlen
    obtain ⟨n, hn⟩ : ∃ n, t5.length = n := ⟨_, rfl⟩
    rw [hn] at h5 hm5 HX HW1 ⊢
    have HN := hide hn
    clear hn
    go_enter Try.func41, Try.ntmps41
    go_upto_region 1 with fail
    rw [HW1.out]
    clear HW1
    go_wp2_with fail
    go_loopw [5, 6] (fun v i wr => ∃ k : Nat, k ≤ n ∧ i = .int .i64 (k : Int) ∧ ∃ S, v = .string S ∧ Aside0 (bts S = showRK (t5.take k) (bts I)) ∧ Aside0 (Below w1.heap.size w1 wr)) (fun _ i _ => n - (intOf i).toNat)
    case atStart => exact ⟨0, Nat.zero_le _, rfl, ⟨#[]⟩, rfl, ⟨by rw [List.take_zero, showRK]; rfl⟩, ⟨Below.refl _ _⟩⟩
    case round =>
      obtain ⟨k, hkn, rfl, S, rfl, hS, hbr⟩ := hrel
      have HSS := hide hS.out
      have HBr := hide hbr.out
      clear hS hbr
      have h5' := cellW h5 HBr.out
      have hln := showRK_len (bts I) t5 k
      have hSz : S.size ≤ 1000000000000 := by rw [← bts_size, HSS.out]; have := HLEN.out; omega
      have hIz : I.size ≤ 1000000000 := by have := HWT.out.2; omega
      by_cases hlt : k < n
      · have hkl : k < t5.length := by rw [HN.out]; exact hlt
        obtain ⟨ad, hA, hT⟩ := TAt_kid (by rw [HN.out]; exact (by have h := HG5.out; rw [HN.out] at h; exact h)) k (by omega) (xs := t5) (w := w1)
        have hkw := WK_at t5 k hkl
        have hxx : rd_T26 t5 (k : Int) = t5[k] := by
          unfold rd_T26
          rw [Int.toNat_natCast, List.getD_eq_getElem?_getD, List.getElem?_eq_getElem hkl]
          rfl
        have hst := showRK_take (bts I) t5 k hkl
        have hl2 := showRK_len (bts I) t5 (k + 1)
        rw [hst, List.length_append] at hl2
        rw [hxx] at hT hkw
        obtain ⟨y, hy⟩ : ∃ y, t5[k] = y := ⟨_, rfl⟩
        rw [hy] at hT hst hl2 hkw
        subst hA
        obtain ⟨B3, d3, B5, d5, e0, e1, e2, e3, e4, e5, l3, g3, l5, g5⟩ := hT
        simp only [List.length_append, bts_size] at hl2
        have hLL := HLEN.out
        have HLN := hide (fun (W : World) (h : Below w1.heap.size w1 W) => rline y B3 d3 B5 d5 W (Kd.C_below g3 h) (by omega))
        have HSH := hide (fun (W : World) (h : Below w1.heap.size w1 W) => HIH.out y B3 d3 B5 d5 (I ++ ⟨#[32, 32]⟩) W (by have := HWT.out.1; omega) (Kd.C_below g5 h) (by have := HWT.out.2; rw [ByteArray.size_append]; show I.size + 2 + _ ≤ _; omega) (by rw [bts_app]; show (showR y (bts I ++ [32, 32])).length ≤ _; omega))
        obtain ⟨ls, hls⟩ : ∃ ls : ByteArray, (⟨(lineL y).toArray⟩ : ByteArray) = ls := ⟨_, rfl⟩
        have hbl : bts ls = lineL y := by rw [← hls]; rfl
        have hlz : ls.size ≤ 1000000000000 := by rw [← bts_size, hbl]; omega
        simp only [hls] at HLN
        have HZ2 := hide (show (showR y (bts (I ++ ⟨#[32, 32]⟩))).length ≤ 1000000000000 from by rw [bts_app]; show (showR y (bts I ++ [32, 32])).length ≤ _; omega)
        have HZ3 := hide (And.intro hSz (And.intro hIz hlz))
        have HNX := hide (fun (R : ByteArray) (hR : bts R = showR y (bts (I ++ ⟨#[32, 32]⟩))) => (show bts (S ++ I ++ ls ++ ⟨#[10]⟩ ++ R) = showRK (t5.take (k + 1)) (bts I) from by
          rw [hst]
          simp only [bts_app, HSS.out, hbl, hR, List.append_assoc]
          rfl))
        obtain ⟨y0, y1, y2, y3, y4, y5⟩ := y
        dsimp only at *
        have HS := hide (fun (W : World) (h : Below w1.heap.size w1 W) => (⟨cellW h5 h, cellW e0 h, cellW e1 h, cellW e2 h, cellW e3 h, cellW e4 h, cellW e5 h⟩ : W.cell? ⟨w.heap.size, 5, none⟩ = some (.slice (some ad) n c5) ∧ W.cell? (ad.add (k * 6)) = some (.int .i64 y0) ∧ W.cell? ⟨(ad.add (k * 6)).block, (ad.add (k * 6)).off + 1, none⟩ = some (.int .i64 y1) ∧ W.cell? ⟨(ad.add (k * 6)).block, (ad.add (k * 6)).off + 2, none⟩ = some (.string y2) ∧ W.cell? ⟨(ad.add (k * 6)).block, (ad.add (k * 6)).off + 3, none⟩ = some (.slice B3 y3.length d3) ∧ W.cell? ⟨(ad.add (k * 6)).block, (ad.add (k * 6)).off + 4, none⟩ = some (.string y4) ∧ W.cell? ⟨(ad.add (k * 6)).block, (ad.add (k * 6)).off + 5, none⟩ = some (.slice B5 y5.length d5)))
        have hk1 : (k : Int) < n := by omega
        have z1 : ¬ 9223372036854775807 < S.size + I.size := by omega
        have z2 : ¬ 9223372036854775807 < S.size + I.size + ls.size := by omega
        have z3 : ¬ 9223372036854775807 < S.size + I.size + ls.size + 1 := by omega
        have z4 : ¬ 9223372036854775807 < I.size + 2 := by omega
        clear hst hl2 hy hxx hln hkl hkw hls hbl hLL e0 e1 e2 e3 e4 e5 l3 g3 l5 g5
        go_upto_region 5 with fail
        clear h5 h5'
        refine wp_region_held_drew (S := fun W => W.cell? ⟨w.heap.size, 5, none⟩ = some (.slice (some ad) n c5) ∧ W.cell? (ad.add (k * 6)) = some (.int .i64 y0) ∧ W.cell? ⟨(ad.add (k * 6)).block, (ad.add (k * 6)).off + 1, none⟩ = some (.int .i64 y1) ∧ W.cell? ⟨(ad.add (k * 6)).block, (ad.add (k * 6)).off + 2, none⟩ = some (.string y2) ∧ W.cell? ⟨(ad.add (k * 6)).block, (ad.add (k * 6)).off + 3, none⟩ = some (.slice B3 y3.length d3) ∧ W.cell? ⟨(ad.add (k * 6)).block, (ad.add (k * 6)).off + 4, none⟩ = some (.string y4) ∧ W.cell? ⟨(ad.add (k * 6)).block, (ad.add (k * 6)).off + 5, none⟩ = some (.slice B5 y5.length d5)) (by kernel_rfl) (HS.out _ (Below.drew HBr.out)) (fun hHeld => ?_)
        refine wpAnyH_take (i := 0) (oi := ?o0x1) (v := ?v0x1) ?ho0x1 (by kernel_rfl) (by kernel_rfl) (by kernel_rfl) ?hQ0x1 (Or.inl ⟨?hw0x1, ?hy0x1⟩) (by assumption) ?_
        case ho0x1 => (simp only [List.getElem?_toArray, List.getElem?_cons_succ, List.getElem?_cons_zero]; try rfl)
        case hQ0x1 => exact fun _ _ _ h => h
        case hw0x1 => rfl
        case hy0x1 => (intro w hSw; (try dsimp only at hSw); go_simp; (first | done | (with_reducible rfl)))
        (try simp only [Act.put, List.setIfInBounds_toArray, List.set_cons_zero, List.set_cons_succ])
        refine wpAnyH_take (i := 1) (oi := ?o1x2) (v := ?v1x2) ?ho1x2 (by kernel_rfl) (by kernel_rfl) (by kernel_rfl) ?hQ1x2 (Or.inl ⟨?hw1x2, ?hy1x2⟩) (by assumption) ?_
        case ho1x2 => (simp only [List.getElem?_toArray, List.getElem?_cons_succ, List.getElem?_cons_zero]; try rfl)
        case hQ1x2 => exact fun _ _ _ h => h
        case hw1x2 => rfl
        case hy1x2 => (intro w hSw; (try dsimp only at hSw); go_simp; (first | done | (with_reducible rfl)))
        (try simp only [Act.put, List.setIfInBounds_toArray, List.set_cons_zero, List.set_cons_succ])
        refine wpAnyH_take (i := 2) (oi := ?o2x3) (v := ?v2x3) ?ho2x3 (by kernel_rfl) (by kernel_rfl) (by kernel_rfl) ?hQ2x3 (Or.inl ⟨?hw2x3, ?hy2x3⟩) (by assumption) ?_
        case ho2x3 => (simp only [List.getElem?_toArray, List.getElem?_cons_succ, List.getElem?_cons_zero]; try rfl)
        case hQ2x3 => exact fun _ _ _ h => h
        case hw2x3 => rfl
        case hy2x3 => (intro w hSw; (try dsimp only at hSw); go_simp; (first | done | (with_reducible rfl)))
        (try simp only [Act.put, List.setIfInBounds_toArray, List.set_cons_zero, List.set_cons_succ])
        refine wpAnyH_take (i := 3) (oi := ?o3x4) (v := ?v3x4) ?ho3x4 (by kernel_rfl) (by kernel_rfl) (by kernel_rfl) ?hQ3x4 (Or.inl ⟨?hw3x4, ?hy3x4⟩) (by assumption) ?_
        case ho3x4 => (simp only [List.getElem?_toArray, List.getElem?_cons_succ, List.getElem?_cons_zero]; try rfl)
        case hQ3x4 => exact fun _ _ _ h => h
        case hw3x4 => rfl
        case hy3x4 => (intro w hSw; (try dsimp only at hSw); go_simp; (first | done | (with_reducible rfl)))
        (try simp only [Act.put, List.setIfInBounds_toArray, List.set_cons_zero, List.set_cons_succ])
        refine wpAnyH_take (i := 4) (oi := ?o4x5) (v := ?v4x5) ?ho4x5 (by kernel_rfl) (by kernel_rfl) (by kernel_rfl) ?hQ4x5 (Or.inl ⟨?hw4x5, ?hy4x5⟩) (by assumption) ?_
        case ho4x5 => (simp only [List.getElem?_toArray, List.getElem?_cons_succ, List.getElem?_cons_zero]; try rfl)
        case hQ4x5 => exact fun _ _ _ h => h
        case hw4x5 => rfl
        case hy4x5 => (intro w hSw; (try dsimp only at hSw); go_simp; (first | done | (with_reducible rfl)))
        (try simp only [Act.put, List.setIfInBounds_toArray, List.set_cons_zero, List.set_cons_succ])
        refine wpAnyH_take (i := 5) (oi := ?o5x6) (v := ?v5x6) ?ho5x6 (by kernel_rfl) (by kernel_rfl) (by kernel_rfl) ?hQ5x6 (Or.inl ⟨?hw5x6, ?hy5x6⟩) (by assumption) ?_
        case ho5x6 => (simp only [List.getElem?_toArray, List.getElem?_cons_succ, List.getElem?_cons_zero]; try rfl)
        case hQ5x6 => exact fun _ _ _ h => h
        case hw5x6 => rfl
        case hy5x6 => (intro w hSw; (try dsimp only at hSw); go_simp; (first | done | (with_reducible rfl)))
        (try simp only [Act.put, List.setIfInBounds_toArray, List.set_cons_zero, List.set_cons_succ])
        refine wpAnyH_take (i := 6) (oi := ?o6x7) (v := ?v6x7) ?ho6x7 (by kernel_rfl) (by kernel_rfl) (by kernel_rfl) ?hQ6x7 (Or.inl ⟨?hw6x7, ?hy6x7⟩) (by assumption) ?_
        case ho6x7 => (simp only [List.getElem?_toArray, List.getElem?_cons_succ, List.getElem?_cons_zero]; try rfl)
        case hQ6x7 => exact fun _ _ _ h => h
        case hw6x7 => rfl
        case hy6x7 => (intro w hSw; (try dsimp only at hSw); go_simp; (first | done | (with_reducible rfl)))
        (try simp only [Act.put, List.setIfInBounds_toArray, List.set_cons_zero, List.set_cons_succ])
        refine wpAnyH_take (i := 7) (oi := ?o7x8) (v := ?v7x8) ?ho7x8 (by kernel_rfl) (by kernel_rfl) (by kernel_rfl) ?hQ7x8 (Or.inl ⟨?hw7x8, ?hy7x8⟩) (by assumption) ?_
        case ho7x8 => (simp only [List.getElem?_toArray, List.getElem?_cons_succ, List.getElem?_cons_zero]; try rfl)
        case hQ7x8 => exact fun _ _ _ h => h
        case hw7x8 => rfl
        case hy7x8 => (intro w hSw; (try dsimp only at hSw); go_simp; (first | done | (with_reducible rfl)))
        (try simp only [Act.put, List.setIfInBounds_toArray, List.set_cons_zero, List.set_cons_succ])
        refine wpAnyH_take (i := 11) (oi := ?o11x9) (v := ?v11x9) ?ho11x9 (by kernel_rfl) (by kernel_rfl) (by kernel_rfl) ?hQ11x9 (Or.inl ⟨?hw11x9, ?hy11x9⟩) (by assumption) ?_
        case ho11x9 => (simp only [List.getElem?_toArray, List.getElem?_cons_succ, List.getElem?_cons_zero]; try rfl)
        case hQ11x9 => exact fun _ _ _ h => h
        case hw11x9 => rfl
        case hy11x9 => (intro w hSw; (try dsimp only at hSw); go_simp; (first | done | (with_reducible rfl)))
        (try simp only [Act.put, List.setIfInBounds_toArray, List.set_cons_zero, List.set_cons_succ])
        refine wpAnyH_take (i := 12) (oi := ?o12x10) (v := ?v12x10) ?ho12x10 (by kernel_rfl) (by kernel_rfl) (by kernel_rfl) ?hQ12x10 (Or.inl ⟨?hw12x10, ?hy12x10⟩) (by assumption) ?_
        case ho12x10 => (simp only [List.getElem?_toArray, List.getElem?_cons_succ, List.getElem?_cons_zero]; try rfl)
        case hQ12x10 => exact fun _ _ _ h => h
        case hw12x10 => rfl
        case hy12x10 => (intro w hSw; (try dsimp only at hSw); go_simp; (first | done | (with_reducible rfl)))
        (try simp only [Act.put, List.setIfInBounds_toArray, List.set_cons_zero, List.set_cons_succ])
        refine wpAnyH_take (i := 13) (oi := ?o13x11) (v := ?v13x11) ?ho13x11 (by kernel_rfl) (by kernel_rfl) (by kernel_rfl) ?hQ13x11 (Or.inl ⟨?hw13x11, ?hy13x11⟩) (by assumption) ?_
        case ho13x11 => (simp only [List.getElem?_toArray, List.getElem?_cons_succ, List.getElem?_cons_zero]; try rfl)
        case hQ13x11 => exact fun _ _ _ h => h
        case hw13x11 => rfl
        case hy13x11 => (intro w hSw; (try dsimp only at hSw); go_simp; (first | done | (with_reducible rfl)))
        (try simp only [Act.put, List.setIfInBounds_toArray, List.set_cons_zero, List.set_cons_succ])
        refine wpAnyH_take (i := 14) (oi := ?o14x12) (v := ?v14x12) ?ho14x12 (by kernel_rfl) (by kernel_rfl) (by kernel_rfl) ?hQ14x12 (Or.inl ⟨?hw14x12, ?hy14x12⟩) (by assumption) ?_
        case ho14x12 => (simp only [List.getElem?_toArray, List.getElem?_cons_succ, List.getElem?_cons_zero]; try rfl)
        case hQ14x12 => exact fun _ _ _ h => h
        case hw14x12 => rfl
        case hy14x12 => (intro w hSw; (try dsimp only at hSw); go_simp; (first | done | (with_reducible rfl)))
        (try simp only [Act.put, List.setIfInBounds_toArray, List.set_cons_zero, List.set_cons_succ])
        refine wpAnyH_take (i := 15) (oi := ?o15x13) (v := ?v15x13) ?ho15x13 (by kernel_rfl) (by kernel_rfl) (by kernel_rfl) ?hQ15x13 (Or.inl ⟨?hw15x13, ?hy15x13⟩) (by assumption) ?_
        case ho15x13 => (simp only [List.getElem?_toArray, List.getElem?_cons_succ, List.getElem?_cons_zero]; try rfl)
        case hQ15x13 => exact fun _ _ _ h => h
        case hw15x13 => rfl
        case hy15x13 => (intro w hSw; (try dsimp only at hSw); go_simp; (first | done | (with_reducible rfl)))
        (try simp only [Act.put, List.setIfInBounds_toArray, List.set_cons_zero, List.set_cons_succ])
        refine wpAnyH_take (i := 16) (oi := ?o16x14) (v := ?v16x14) ?ho16x14 (by kernel_rfl) (by kernel_rfl) (by kernel_rfl) ?hQ16x14 (Or.inl ⟨?hw16x14, ?hy16x14⟩) (by assumption) ?_
        case ho16x14 => (simp only [List.getElem?_toArray, List.getElem?_cons_succ, List.getElem?_cons_zero]; try rfl)
        case hQ16x14 => exact fun _ _ _ h => h
        case hw16x14 => rfl
        case hy16x14 => (intro w hSw; (try dsimp only at hSw); go_simp; (first | done | (with_reducible rfl)))
        (try simp only [Act.put, List.setIfInBounds_toArray, List.set_cons_zero, List.set_cons_succ])
        refine wpAnyH_take (i := 17) (oi := ?o17x15) (v := ?v17x15) ?ho17x15 (by kernel_rfl) (by kernel_rfl) (by kernel_rfl) ?hQ17x15 (Or.inl ⟨?hw17x15, ?hy17x15⟩) (by assumption) ?_
        case ho17x15 => (simp only [List.getElem?_toArray, List.getElem?_cons_succ, List.getElem?_cons_zero]; try rfl)
        case hQ17x15 => exact fun _ _ _ h => h
        case hw17x15 => rfl
        case hy17x15 => (intro w hSw; (try dsimp only at hSw); go_simp; (first | done | (with_reducible rfl)))
        (try simp only [Act.put, List.setIfInBounds_toArray, List.set_cons_zero, List.set_cons_succ])
        refine wpAnyH_ready (rs := [8]) (by kernel_rfl) (by simp) ?_
        refine (AllReadyH.cons (i := 8) (o := ?o8y16) ?ho8y16 (fun K hK => ?_) AllReadyH.nil)
        case ho8y16 => (simp only [List.getElem?_toArray, List.getElem?_cons_succ, List.getElem?_cons_zero]; try rfl)
        go_simp
        go_at_call 63
        refine (HLN.out _ (Below.drew HBr.out)).mono ?_
        rintro e wL ⟨rfl, bL⟩
        have bL2 := below_step (Below.drew HBr.out) bL
        refine hK.out _ _ (HS.out _ bL2) (fun _ => ?_)
        clear hK K
        (try simp only [Act.put, List.setIfInBounds_toArray, List.set_cons_zero, List.set_cons_succ])
        refine wpAnyH_take (i := 9) (oi := ?o9x17) (v := ?v9x17) ?ho9x17 (by kernel_rfl) (by kernel_rfl) (by kernel_rfl) ?hQ9x17 (Or.inl ⟨?hw9x17, ?hy9x17⟩) (by assumption) ?_
        case ho9x17 => (simp only [List.getElem?_toArray, List.getElem?_cons_succ, List.getElem?_cons_zero]; try rfl)
        case hQ9x17 => exact fun _ _ _ h => h
        case hw9x17 => rfl
        case hy9x17 => (intro w hSw; (try dsimp only at hSw); go_simp; (first | done | (with_reducible rfl)))
        (try simp only [Act.put, List.setIfInBounds_toArray, List.set_cons_zero, List.set_cons_succ])
        refine wpAnyH_take (i := 10) (oi := ?o10x18) (v := ?v10x18) ?ho10x18 (by kernel_rfl) (by kernel_rfl) (by kernel_rfl) ?hQ10x18 (Or.inl ⟨?hw10x18, ?hy10x18⟩) (by assumption) ?_
        case ho10x18 => (simp only [List.getElem?_toArray, List.getElem?_cons_succ, List.getElem?_cons_zero]; try rfl)
        case hQ10x18 => exact fun _ _ _ h => h
        case hw10x18 => rfl
        case hy10x18 => (intro w hSw; (try dsimp only at hSw); go_simp; (first | done | (with_reducible rfl)))
        (try simp only [Act.put, List.setIfInBounds_toArray, List.set_cons_zero, List.set_cons_succ])
        refine wpAnyH_ready (rs := [18]) (by kernel_rfl) (by simp) ?_
        refine (AllReadyH.cons (i := 18) (o := ?o18y19) ?ho18y19 (fun K hK => ?_) AllReadyH.nil)
        case ho18y19 => (simp only [List.getElem?_toArray, List.getElem?_cons_succ, List.getElem?_cons_zero]; try rfl)
        go_simp
        go_at_call 41
        refine (HSH.out _ bL2).mono ?_
        rintro e wS ⟨R, rfl, hR, bS⟩
        have bS2 := below_step bL2 bS
        have hRz : R.size ≤ 1000000000000 := by rw [← bts_size, hR]; have := HZ2.out; omega
        have y1 : ¬ 9223372036854775807 < S.size + I.size + ls.size + 1 + R.size := by have := HZ3.out; omega
        refine hK.out _ _ (HS.out _ bS2) (fun _ => ?_)
        clear hK K
        (try simp only [Act.put, List.setIfInBounds_toArray, List.set_cons_zero, List.set_cons_succ])
        refine wpAnyH_take (i := 19) (oi := ?o19x20) (v := ?v19x20) ?ho19x20 (by kernel_rfl) (by kernel_rfl) (by kernel_rfl) ?hQ19x20 (Or.inl ⟨?hw19x20, ?hy19x20⟩) (by assumption) ?_
        case ho19x20 => (simp only [List.getElem?_toArray, List.getElem?_cons_succ, List.getElem?_cons_zero]; try rfl)
        case hQ19x20 => exact fun _ _ _ h => h
        case hw19x20 => rfl
        case hy19x20 => (intro w hSw; (try dsimp only at hSw); go_simp; (first | done | (with_reducible rfl)))
        (try simp only [Act.put, List.setIfInBounds_toArray, List.set_cons_zero, List.set_cons_succ])
        refine wpAnyH_ready (rs := [20]) (by kernel_rfl) (by simp) ?_
        refine (AllReadyH.cons (i := 20) (o := ?o20y21) ?ho20y21 (fun K hK => ?_) AllReadyH.nil)
        case ho20y21 => (simp only [List.getElem?_toArray, List.getElem?_cons_succ, List.getElem?_cons_zero]; try rfl)
        go_simp
        refine hK.out _ _ (HS.out _ bS2) (fun _ => ?_)
        clear hK K
        (try simp only [Act.put, List.setIfInBounds_toArray, List.set_cons_zero, List.set_cons_succ])
        refine wpAnyH_done (by kernel_rfl) ?_ _
        have HBN := hide bS2
        have HRR := hide hR
        clear bS2 bL2 bL bS hR y1 hRz
        go_wp2_with fail
        go_roundw
        case rel => exact ⟨k + 1, by omega, by go_num, _, rfl, ⟨HNX.out _ HRR.out⟩, ⟨HBN.out⟩⟩
        case measure => simp only [intOf]; omega
      · have hke : k = n := by omega
        subst hke
        have hk1 : ¬ (k : Int) < k := by omega
        have HFIN := hide (show bts S = showRK t5 (bts I) from by rw [HSS.out, List.take_of_length_le (by rw [HN.out]; exact Nat.le_refl _)])
        clear hlt hln h5
        go_wp2_with fail
        go_ret
        exact ⟨_, rfl, HFIN.out, below_step HB.out HBr.out⟩
set_option maxHeartbeats 8000000 in
set_option maxRecDepth 100000 in
theorem rShow (t : S26) (A3 : Option Addr) (c3 : Nat) (A5 : Option Addr) (c5 : Nat) (w : World) (g5 : k26.C w A5 t.f5.length t.f5) (hW : 2 * W t ≤ 1000000000) (hlen : (showR t []).length ≤ 1000000000000) :
    Calls Try.prog 15 #[.agg #[.int .i64 t.f0, .int .i64 t.f1, .string t.f2, .slice A3 t.f3.length c3, .string t.f4, .slice A5 t.f5.length c5]] w fun e w' => e = .returned (.string ⟨(showR t []).toArray⟩) ∧ Below w.heap.size w w' := by
  have hX := heap_alloc_new w (.cells #[.int .i64 t.f0, .int .i64 t.f1, .string t.f2, .slice A3 t.f3.length c3, .string t.f4, .slice A5 t.f5.length c5] 26)
  have b1 := below_alloc (Below.refl w.heap.size w) (.cells #[.int .i64 t.f0, .int .i64 t.f1, .string t.f2, .slice A3 t.f3.length c3, .string t.f4, .slice A5 t.f5.length c5] 26)
  obtain ⟨w1, hw1⟩ : ∃ y, w.alloc (.cells #[.int .i64 t.f0, .int .i64 t.f1, .string t.f2, .slice A3 t.f3.length c3, .string t.f4, .slice A5 t.f5.length c5] 26) = y := ⟨_, rfl⟩
  rw [hw1] at hX b1
  have h0 := cell_of_row _ _ 0 _ _ _ hX
  have h1 := cell_of_row _ _ 1 _ _ _ hX
  have h2 := cell_of_row _ _ 2 _ _ _ hX
  have h3 := cell_of_row _ _ 3 _ _ _ hX
  have h4 := cell_of_row _ _ 4 _ _ _ hX
  have h5 := cell_of_row _ _ 5 _ _ _ hX
  have HB := hide b1
  have HW1 := hide hw1
  have HC := hide (rshow (W t) t A3 c3 A5 c5 ⟨#[]⟩ w1 (Nat.le_refl _) (Kd.C_below g5 b1) (by show 0 + _ ≤ _; omega) hlen)
  clear hX b1 hw1 g5 hlen hW
  obtain ⟨R, hR⟩ : ∃ R, showR t [] = R := ⟨_, rfl⟩
  rw [show bts (⟨#[]⟩ : ByteArray) = [] from rfl, hR] at HC
  rw [hR]
  clear hR
  obtain ⟨t0, t1, t2, t3, t4, t5⟩ := t
  dsimp only at *
  go_enter Try.func15, Try.ntmps15
  go_upto_region 1 with fail
  rw [HW1.out]
  go_wp2_with (go_at_call 41; (with_reducible refine HC.out.mono ?_); rintro e w' ⟨r, rfl, hr, hb⟩; have HR := hide hr; have HBB := hide hb; clear hr hb)
  go_ret
  exact ⟨congrArg (fun s => Ending.returned (Value.string s)) (of_bts HR.out), below_step HB.out HBB.out⟩
end Go.Proofs.Ytaponaemgolmoaa.Tr
