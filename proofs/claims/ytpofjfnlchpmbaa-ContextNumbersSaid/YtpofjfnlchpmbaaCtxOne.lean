/- The walks of context.Right and arbourlaw20.one. -/
import Derived.Test.YtpofjfnlchpmbaaAttrsPlain
import Derived.Test.YtpofjfnlchpmbaaCtxLexers
import Derived.Test.YtpofjfnlchpmbaaPContextTellsx3
import Derived.Deep.DeepCutAuto
import Derived.Deep.CutBlock
namespace Go.Proofs.Ytpofjfnlchpmbaa.Ctx
open Go.RowKit Go.Proofs.Ytpofjfnlchpmbaa.PContextTells Go.Proofs.YtpofjfnlchpmbaaW.PrintWords Go.Proofs.YtpofjfnlchpmbaaW.PrintLast

/-- Whether a context may be. -/
def rightL (n : Int) (s : ByteArray) (l : List S44) : Bool := (n == 1 || n == 2) && !(s.toList == []) && ((moreL [] l).length == l.length)
theorem refUnique (A : Option Addr) (c : Nat) (l : List S44) (w : World) (h : Rds w A c l) (hn : l.length ≤ 1000) : Calls Try.prog 20 #[.slice A l.length c] w (RowPost (moreL [] l) w) := by
  refine (arbourref7_Unique.calls (2 * l.length + 3) A c l (moreL [] l) w h.1 h.2 (unique_some l (by omega) _ (by omega))).mono ?_
  rintro e w' ⟨v, rfl, hR, hb⟩
  exact ⟨v, rfl, hR, hb⟩
theorem raw_ref (a : ByteArray) (sc : Bool) : arbourref6_Raw.f 9 a sc = names_Raw.f 9 a sc := by
  unfold arbourref6_Raw.f names_Raw.f
  simp only [arbourref6_Raw.j0, arbourref6_Raw.j1, names_Raw.j0, names_Raw.j1]
  by_cases h1 : a.toList = [112, 108, 97, 105, 110, 116, 101, 120, 116]
  · rw [h1]; decide +revert +kernel
  · by_cases h2 : a.toList = [110, 111, 115, 99, 114, 105, 112, 116]
    · rw [h2]; decide +revert +kernel
    · simp [h1, h2]
set_option maxHeartbeats 8000000 in
set_option maxRecDepth 100000 in
theorem right (n : Int) (s : ByteArray) (A : Option Addr) (c : Nat) (l : List S44) (w : World) (h : Rds w A c l) (hn : l.length ≤ 1000) :
    Calls Try.prog 22 #[.agg #[.int .i64 n, .string s, .slice A l.length c]] w fun e w' => e = .returned (.bool (rightL n s l)) ∧ Below w.heap.size w w' := by
  have H := hide h
  clear h
  go_enter Try.func22, Try.ntmps22
  go_wp2_with fail
  obtain ⟨wX, hX⟩ : ∃ wX, w.alloc (.cells #[.int .i64 n, .string s, .slice A l.length c] 24) = wX := ⟨_, rfl⟩
  have hbX : Below w.heap.size w wX := by rw [← hX]; exact below_alloc (Below.refl _ _) _
  have gX : wX.heap[w.heap.size]? = some (.cells #[.int .i64 n, .string s, .slice A l.length c] 24 (0, 0)) := by rw [← hX]; exact heap_alloc_new w _
  rw [hX]
  clear hX
  have x0 : wX.cell? ⟨w.heap.size, 0, none⟩ = some (.int .i64 n) := cell_of_row wX _ 0 _ _ _ gX
  have x1 : wX.cell? ⟨w.heap.size, 1, none⟩ = some (.string s) := cell_of_row wX _ 1 _ _ _ gX
  have x2 : wX.cell? ⟨w.heap.size, 2, none⟩ = some (.slice A l.length c) := cell_of_row wX _ 2 _ _ _ gX
  have HBX := hide hbX
  have GX := hide gX
  have HCX := hide (show k44.C wX A l.length l ∧ l.length ≤ c from ⟨Kd.C_below H.out.1 hbX, H.out.2⟩)
  have HN := hide hn
  clear hbX gX hn
  by_cases q0 : n = 1
  · subst q0
    by_cases q2 : s.toList = []
    · have hbe : (s.toList == []) = true := by rw [q2]; rfl
      have hR : Hid (rightL 1 s l = false) := hide (by unfold rightL; rw [hbe]; simp)
      clear q2
      go_quiet (fail)
      have b8w := pw_below_drewN (Below.refl wX.heap.size wX) nq
      go_wp2_with fail
      go_ret
      exact ⟨by rw [hR.out]; rfl, HBX.out.trans (b8w.mono HBX.out.size)⟩
    · have hbe : (s.toList == []) = false := beq_eq_false_iff_ne.2 q2
      by_cases q3 : (moreL [] l).length = l.length
      · have hR : Hid (rightL 1 s l = true) := hide (by unfold rightL; rw [hbe, q3]; simp)
        have q4 : (((moreL [] l).length : Int) == (l.length : Int)) = true := by rw [q3]; simp
        have HU : Hid (∀ W : World, k44.C W A l.length l → Calls Try.prog 32 #[.slice A l.length c] W (RowPost (moreL [] l) W)) := hide (fun W hW => unique A c l W ⟨hW, HCX.out.2⟩ (by have := HN.out; omega))
        have hCd := hide (show k44.C wX.drew A l.length l from HCX.out.1)
        first | go_region_with (go_at_call 32; (refine (HU.out _ hCd.out).mono ?_); rintro e wn8 ⟨v, rfl, hR8, b8⟩; obtain ⟨AU, cU, rfl, _, _⟩ := Kd.R_reads hR8; clear hR8; have x2n : wn8.cell? ⟨w.heap.size, 2, none⟩ = some (.slice A l.length c) := cellW (W := wX.drew) x2 b8; have b8w := below_step (show Below wX.heap.size wX wX.drew from (Below.refl _ _).drew) b8) | fail
        all_goals (
          go_wp2_with fail
          go_ret
          exact ⟨by rw [hR.out]; rfl, HBX.out.trans (b8w.mono HBX.out.size)⟩)
      · have hR : Hid (rightL 1 s l = false) := hide (by unfold rightL; rw [hbe, beq_eq_false_iff_ne.2 q3]; simp)
        have q4 : (((moreL [] l).length : Int) == (l.length : Int)) = false := beq_eq_false_iff_ne.2 (by omega)
        have HU : Hid (∀ W : World, k44.C W A l.length l → Calls Try.prog 32 #[.slice A l.length c] W (RowPost (moreL [] l) W)) := hide (fun W hW => unique A c l W ⟨hW, HCX.out.2⟩ (by have := HN.out; omega))
        have hCd := hide (show k44.C wX.drew A l.length l from HCX.out.1)
        first | go_region_with (go_at_call 32; (refine (HU.out _ hCd.out).mono ?_); rintro e wn8 ⟨v, rfl, hR8, b8⟩; obtain ⟨AU, cU, rfl, _, _⟩ := Kd.R_reads hR8; clear hR8; have x2n : wn8.cell? ⟨w.heap.size, 2, none⟩ = some (.slice A l.length c) := cellW (W := wX.drew) x2 b8; have b8w := below_step (show Below wX.heap.size wX wX.drew from (Below.refl _ _).drew) b8) | fail
        all_goals (
          go_wp2_with fail
          go_ret
          exact ⟨by rw [hR.out]; rfl, HBX.out.trans (b8w.mono HBX.out.size)⟩)
  · by_cases q1 : n = 2
    · subst q1
      have e21 : ((2 : Int) == 1) = false := by decide
      by_cases q2 : s.toList = []
      · have hbe : (s.toList == []) = true := by rw [q2]; rfl
        have hR : Hid (rightL 2 s l = false) := hide (by unfold rightL; rw [hbe]; simp)
        clear q2
        go_quiet (fail)
        have b8w := pw_below_drewN (Below.refl wX.heap.size wX) nq
        go_wp2_with fail
        go_ret
        exact ⟨by rw [hR.out]; rfl, HBX.out.trans (b8w.mono HBX.out.size)⟩
      · have hbe : (s.toList == []) = false := beq_eq_false_iff_ne.2 q2
        by_cases q3 : (moreL [] l).length = l.length
        · have hR : Hid (rightL 2 s l = true) := hide (by unfold rightL; rw [hbe, q3]; simp)
          have q4 : (((moreL [] l).length : Int) == (l.length : Int)) = true := by rw [q3]; simp
          have allS : ∀ W : World, Below wX.heap.size wX W → W.cell? ⟨w.heap.size, 0, none⟩ = some (.int .i64 2) ∧ W.cell? ⟨w.heap.size, 1, none⟩ = some (.string s) ∧ W.cell? ⟨w.heap.size, 2, none⟩ = some (.slice A l.length c) ∧ k44.C W A l.length l ∧ Below wX.heap.size wX W :=
            fun W hW => ⟨cellW x0 hW, cellW x1 hW, cellW x2 hW, Kd.C_below HCX.out.1 hW, hW⟩
          have AS_ := hide allS
          have HU : Hid (∀ W : World, k44.C W A l.length l → Calls Try.prog 32 #[.slice A l.length c] W (RowPost (moreL [] l) W)) := hide (fun W hW => unique A c l W ⟨hW, HCX.out.2⟩ (by have := HN.out; omega))
          clear x0 x1 x2 allS
          have hI := AS_.out wX.drew (Below.refl _ _).drew
          first | go_region_held3 (fun W => W.cell? ⟨w.heap.size, 0, none⟩ = some (.int .i64 2) ∧ W.cell? ⟨w.heap.size, 1, none⟩ = some (.string s) ∧ W.cell? ⟨w.heap.size, 2, none⟩ = some (.slice A l.length c) ∧ k44.C W A l.length l ∧ Below wX.heap.size wX W) (first | exact hI | exact AS_.out _ (by assumption) | go_keep) (first | (go_at_call 32; (try go_split_ands); (with_reducible refine (HU.out _ (by assumption)).mono ?_); rintro e wn8 ⟨v, rfl, hR, b8⟩; obtain ⟨AU, cU, rfl, _, _⟩ := Kd.R_reads hR; clear hR; have b8w := below_step (show Below wX.heap.size wX _ from by assumption) b8)) | fail
          all_goals (
            go_wp2_with fail
            go_ret
            exact ⟨by rw [hR.out]; rfl, HBX.out.trans (b8w.mono HBX.out.size)⟩)
        · have hR : Hid (rightL 2 s l = false) := hide (by unfold rightL; rw [hbe, beq_eq_false_iff_ne.2 q3]; simp)
          have q4 : (((moreL [] l).length : Int) == (l.length : Int)) = false := beq_eq_false_iff_ne.2 (by omega)
          have allS : ∀ W : World, Below wX.heap.size wX W → W.cell? ⟨w.heap.size, 0, none⟩ = some (.int .i64 2) ∧ W.cell? ⟨w.heap.size, 1, none⟩ = some (.string s) ∧ W.cell? ⟨w.heap.size, 2, none⟩ = some (.slice A l.length c) ∧ k44.C W A l.length l ∧ Below wX.heap.size wX W :=
            fun W hW => ⟨cellW x0 hW, cellW x1 hW, cellW x2 hW, Kd.C_below HCX.out.1 hW, hW⟩
          have AS_ := hide allS
          have HU : Hid (∀ W : World, k44.C W A l.length l → Calls Try.prog 32 #[.slice A l.length c] W (RowPost (moreL [] l) W)) := hide (fun W hW => unique A c l W ⟨hW, HCX.out.2⟩ (by have := HN.out; omega))
          clear x0 x1 x2 allS
          have hI := AS_.out wX.drew (Below.refl _ _).drew
          first | go_region_held3 (fun W => W.cell? ⟨w.heap.size, 0, none⟩ = some (.int .i64 2) ∧ W.cell? ⟨w.heap.size, 1, none⟩ = some (.string s) ∧ W.cell? ⟨w.heap.size, 2, none⟩ = some (.slice A l.length c) ∧ k44.C W A l.length l ∧ Below wX.heap.size wX W) (first | exact hI | exact AS_.out _ (by assumption) | go_keep) (first | (go_at_call 32; (try go_split_ands); (with_reducible refine (HU.out _ (by assumption)).mono ?_); rintro e wn8 ⟨v, rfl, hR, b8⟩; obtain ⟨AU, cU, rfl, _, _⟩ := Kd.R_reads hR; clear hR; have b8w := below_step (show Below wX.heap.size wX _ from by assumption) b8)) | fail
          all_goals (
            go_wp2_with fail
            go_ret
            exact ⟨by rw [hR.out]; rfl, HBX.out.trans (b8w.mono HBX.out.size)⟩)
    · have e1 : (n == 1) = false := beq_eq_false_iff_ne.2 q0
      have e2 : (n == 2) = false := beq_eq_false_iff_ne.2 q1
      have hR : Hid (rightL n s l = false) := hide (by unfold rightL; rw [e1, e2]; simp)
      go_quiet (fail)
      have b8w := pw_below_drewN (Below.refl wX.heap.size wX) nq
      go_wp2_with fail
      go_ret
      exact ⟨by rw [hR.out]; rfl, HBX.out.trans (b8w.mono HBX.out.size)⟩
set_option maxHeartbeats 8000000 in
set_option maxRecDepth 100000 in
theorem one (n : Int) (s : ByteArray) (A : Option Addr) (c : Nat) (l : List S44) (w : World) (h : Rds w A c l) (hn : l.length ≤ 1000) :
    Calls Try.prog 12 #[.agg #[.int .i64 n, .string s, .slice A l.length c]] w fun e w' => e = .returned (.bool true) ∧ Below w.heap.size w w' := by
  have H := hide h
  have HN0 := hide hn
  clear h
  go_enter Try.func12, Try.ntmps12
  go_wp2_with fail
  obtain ⟨wX, hX⟩ : ∃ wX, w.alloc (.cells #[.int .i64 n, .string s, .slice A l.length c] 24) = wX := ⟨_, rfl⟩
  have hbX : Below w.heap.size w wX := by rw [← hX]; exact below_alloc (Below.refl _ _) _
  have gX : wX.heap[w.heap.size]? = some (.cells #[.int .i64 n, .string s, .slice A l.length c] 24 (0, 0)) := by rw [← hX]; exact heap_alloc_new w _
  rw [hX]
  clear hX
  have x0 : wX.cell? ⟨w.heap.size, 0, none⟩ = some (.int .i64 n) := cell_of_row wX _ 0 _ _ _ gX
  have x1 : wX.cell? ⟨w.heap.size, 1, none⟩ = some (.string s) := cell_of_row wX _ 1 _ _ _ gX
  have x2 : wX.cell? ⟨w.heap.size, 2, none⟩ = some (.slice A l.length c) := cell_of_row wX _ 2 _ _ _ gX
  have HBX := hide hbX
  have GX := hide gX
  have HCX := hide (show k44.C wX A l.length l ∧ l.length ≤ c from ⟨Kd.C_below H.out.1 hbX, H.out.2⟩)
  have HN := hide hn
  clear hbX gX hn
  go_cut [3] from 6 to 28 (fun v3 wx => v3 = .bool (rightL n s l) ∧ wx.heap[w.heap.size]? = some (.cells #[.int .i64 n, .string s, .slice A l.length c] 24 (0, 0)) ∧ Below w.heap.size w wx)
  case first =>
    by_cases q0 : n = 1
    · subst q0
      by_cases q2 : s.toList = []
      · have hbe : (s.toList == []) = true := by rw [q2]; rfl
        have hR : Hid (rightL 1 s l = false) := hide (by unfold rightL; rw [hbe]; simp)
        clear q2
        go_quiet (fail)
        have b8w := pw_below_drewN (Below.refl wX.heap.size wX) nq
        go_wp2_with fail
        go_meet
        exact ⟨by rw [hR.out], (b8w.block _ (blk_lt GX.out)).trans GX.out, HBX.out.trans (b8w.mono HBX.out.size)⟩
      · have hbe : (s.toList == []) = false := beq_eq_false_iff_ne.2 q2
        by_cases q3 : (moreL [] l).length = l.length
        · have hR : Hid (rightL 1 s l = true) := hide (by unfold rightL; rw [hbe, q3]; simp)
          have q4 : (((moreL [] l).length : Int) == (l.length : Int)) = true := by rw [q3]; simp
          have HU : Hid (∀ W : World, k44.C W A l.length l → Calls Try.prog 20 #[.slice A l.length c] W (RowPost (moreL [] l) W)) := hide (fun W hW => refUnique A c l W ⟨hW, HCX.out.2⟩ (by have := HN.out; omega))
          have hCd := hide (show k44.C wX.drew A l.length l from HCX.out.1)
          first | go_region_with (go_at_call 20; (refine (HU.out _ hCd.out).mono ?_); rintro e wn8 ⟨v, rfl, hR8, b8⟩; obtain ⟨AU, cU, rfl, _, _⟩ := Kd.R_reads hR8; clear hR8; have x2n : wn8.cell? ⟨w.heap.size, 2, none⟩ = some (.slice A l.length c) := cellW (W := wX.drew) x2 b8; have b8w := below_step (show Below wX.heap.size wX wX.drew from (Below.refl _ _).drew) b8) | fail
          all_goals (
            go_wp2_with fail
            go_meet
            exact ⟨by rw [hR.out], (b8w.block _ (blk_lt GX.out)).trans GX.out, HBX.out.trans (b8w.mono HBX.out.size)⟩)
        · have hR : Hid (rightL 1 s l = false) := hide (by unfold rightL; rw [hbe, beq_eq_false_iff_ne.2 q3]; simp)
          have q4 : (((moreL [] l).length : Int) == (l.length : Int)) = false := beq_eq_false_iff_ne.2 (by omega)
          have HU : Hid (∀ W : World, k44.C W A l.length l → Calls Try.prog 20 #[.slice A l.length c] W (RowPost (moreL [] l) W)) := hide (fun W hW => refUnique A c l W ⟨hW, HCX.out.2⟩ (by have := HN.out; omega))
          have hCd := hide (show k44.C wX.drew A l.length l from HCX.out.1)
          first | go_region_with (go_at_call 20; (refine (HU.out _ hCd.out).mono ?_); rintro e wn8 ⟨v, rfl, hR8, b8⟩; obtain ⟨AU, cU, rfl, _, _⟩ := Kd.R_reads hR8; clear hR8; have x2n : wn8.cell? ⟨w.heap.size, 2, none⟩ = some (.slice A l.length c) := cellW (W := wX.drew) x2 b8; have b8w := below_step (show Below wX.heap.size wX wX.drew from (Below.refl _ _).drew) b8) | fail
          all_goals (
            go_wp2_with fail
            go_meet
            exact ⟨by rw [hR.out], (b8w.block _ (blk_lt GX.out)).trans GX.out, HBX.out.trans (b8w.mono HBX.out.size)⟩)
    · by_cases q1 : n = 2
      · subst q1
        have e21 : ((2 : Int) == 1) = false := by decide
        by_cases q2 : s.toList = []
        · have hbe : (s.toList == []) = true := by rw [q2]; rfl
          have hR : Hid (rightL 2 s l = false) := hide (by unfold rightL; rw [hbe]; simp)
          clear q2
          go_quiet (fail)
          have b8w := pw_below_drewN (Below.refl wX.heap.size wX) nq
          go_wp2_with fail
          go_meet
          exact ⟨by rw [hR.out], (b8w.block _ (blk_lt GX.out)).trans GX.out, HBX.out.trans (b8w.mono HBX.out.size)⟩
        · have hbe : (s.toList == []) = false := beq_eq_false_iff_ne.2 q2
          by_cases q3 : (moreL [] l).length = l.length
          · have hR : Hid (rightL 2 s l = true) := hide (by unfold rightL; rw [hbe, q3]; simp)
            have q4 : (((moreL [] l).length : Int) == (l.length : Int)) = true := by rw [q3]; simp
            have allS : ∀ W : World, Below wX.heap.size wX W → W.cell? ⟨w.heap.size, 0, none⟩ = some (.int .i64 2) ∧ W.cell? ⟨w.heap.size, 1, none⟩ = some (.string s) ∧ W.cell? ⟨w.heap.size, 2, none⟩ = some (.slice A l.length c) ∧ k44.C W A l.length l ∧ Below wX.heap.size wX W :=
              fun W hW => ⟨cellW x0 hW, cellW x1 hW, cellW x2 hW, Kd.C_below HCX.out.1 hW, hW⟩
            have AS_ := hide allS
            have HU : Hid (∀ W : World, k44.C W A l.length l → Calls Try.prog 20 #[.slice A l.length c] W (RowPost (moreL [] l) W)) := hide (fun W hW => refUnique A c l W ⟨hW, HCX.out.2⟩ (by have := HN.out; omega))
            clear x0 x1 x2 allS
            have hI := AS_.out wX.drew (Below.refl _ _).drew
            first | go_region_held3 (fun W => W.cell? ⟨w.heap.size, 0, none⟩ = some (.int .i64 2) ∧ W.cell? ⟨w.heap.size, 1, none⟩ = some (.string s) ∧ W.cell? ⟨w.heap.size, 2, none⟩ = some (.slice A l.length c) ∧ k44.C W A l.length l ∧ Below wX.heap.size wX W) (first | exact hI | exact AS_.out _ (by assumption) | go_keep) (first | (go_at_call 20; (try go_split_ands); (with_reducible refine (HU.out _ (by assumption)).mono ?_); rintro e wn8 ⟨v, rfl, hR, b8⟩; obtain ⟨AU, cU, rfl, _, _⟩ := Kd.R_reads hR; clear hR; have b8w := below_step (show Below wX.heap.size wX _ from by assumption) b8)) | fail
            all_goals (
              go_wp2_with fail
              go_meet
              exact ⟨by rw [hR.out], (b8w.block _ (blk_lt GX.out)).trans GX.out, HBX.out.trans (b8w.mono HBX.out.size)⟩)
          · have hR : Hid (rightL 2 s l = false) := hide (by unfold rightL; rw [hbe, beq_eq_false_iff_ne.2 q3]; simp)
            have q4 : (((moreL [] l).length : Int) == (l.length : Int)) = false := beq_eq_false_iff_ne.2 (by omega)
            have allS : ∀ W : World, Below wX.heap.size wX W → W.cell? ⟨w.heap.size, 0, none⟩ = some (.int .i64 2) ∧ W.cell? ⟨w.heap.size, 1, none⟩ = some (.string s) ∧ W.cell? ⟨w.heap.size, 2, none⟩ = some (.slice A l.length c) ∧ k44.C W A l.length l ∧ Below wX.heap.size wX W :=
              fun W hW => ⟨cellW x0 hW, cellW x1 hW, cellW x2 hW, Kd.C_below HCX.out.1 hW, hW⟩
            have AS_ := hide allS
            have HU : Hid (∀ W : World, k44.C W A l.length l → Calls Try.prog 20 #[.slice A l.length c] W (RowPost (moreL [] l) W)) := hide (fun W hW => refUnique A c l W ⟨hW, HCX.out.2⟩ (by have := HN.out; omega))
            clear x0 x1 x2 allS
            have hI := AS_.out wX.drew (Below.refl _ _).drew
            first | go_region_held3 (fun W => W.cell? ⟨w.heap.size, 0, none⟩ = some (.int .i64 2) ∧ W.cell? ⟨w.heap.size, 1, none⟩ = some (.string s) ∧ W.cell? ⟨w.heap.size, 2, none⟩ = some (.slice A l.length c) ∧ k44.C W A l.length l ∧ Below wX.heap.size wX W) (first | exact hI | exact AS_.out _ (by assumption) | go_keep) (first | (go_at_call 20; (try go_split_ands); (with_reducible refine (HU.out _ (by assumption)).mono ?_); rintro e wn8 ⟨v, rfl, hR, b8⟩; obtain ⟨AU, cU, rfl, _, _⟩ := Kd.R_reads hR; clear hR; have b8w := below_step (show Below wX.heap.size wX _ from by assumption) b8)) | fail
            all_goals (
              go_wp2_with fail
              go_meet
              exact ⟨by rw [hR.out], (b8w.block _ (blk_lt GX.out)).trans GX.out, HBX.out.trans (b8w.mono HBX.out.size)⟩)
      · have e1 : (n == 1) = false := beq_eq_false_iff_ne.2 q0
        have e2 : (n == 2) = false := beq_eq_false_iff_ne.2 q1
        have hR : Hid (rightL n s l = false) := hide (by unfold rightL; rw [e1, e2]; simp)
        go_quiet (fail)
        have b8w := pw_below_drewN (Below.refl wX.heap.size wX) nq
        go_wp2_with fail
        go_meet
        exact ⟨by rw [hR.out], (b8w.block _ (blk_lt GX.out)).trans GX.out, HBX.out.trans (b8w.mono HBX.out.size)⟩
  case rest =>
    clear x0 x1 x2 HBX GX HCX HN
    obtain ⟨rfl, hg, hb⟩ := hcut
    obtain ⟨B, hB⟩ : ∃ B, rightL n s l = B := ⟨_, rfl⟩
    rw [hB]
    have HGC := hide hg
    have HBC := hide hb
    have HRI := hide hB
    clear hg hb hB
    go_wp2_with fail
    go_loopw [4] (fun i wr => ∃ k : Nat, k ≤ 2 ∧ i = .int .i64 k ∧ Aside0 (wr.heap[w.heap.size]? = some (.cells #[.int .i64 n, .string s, .slice A l.length c] 24 (0, 0))) ∧ Aside0 (Below w.heap.size w wr)) (fun i _ => 2 - (intOf i).toNat)
    case atStart => exact ⟨0, by omega, rfl, ⟨HGC.out⟩, ⟨HBC.out⟩⟩
    case round =>
      clear HGC HBC
      obtain ⟨k, hk, rfl, HG, HB⟩ := hrel
      by_cases hlt : k < 2
      · by_cases q0 : n = 1
        · subst q0
          have y0 : wr.cell? ⟨w.heap.size, 0, none⟩ = some (.int .i64 1) := cell_of_row wr _ 0 _ _ _ HG.out
          have y1 : wr.cell? ⟨w.heap.size, 1, none⟩ = some (.string s) := cell_of_row wr _ 1 _ _ _ HG.out
          have y2 : wr.cell? ⟨w.heap.size, 2, none⟩ = some (.slice A l.length c) := cell_of_row wr _ 2 _ _ _ HG.out
          match k, hlt with
          | 0, _ =>
            obtain ⟨r, hr, _, _⟩ := raw_some s false
            go_wp2_with fail
            refine (arbourref6_Raw.calls 9 s false r _ (by rw [raw_ref]; exact hr)).mono ?_
            rintro e w5 ⟨rfl, hd⟩
            have hb5 := hd.below
            have g5 := (hb5.block _ (blk_lt HG.out)).trans HG.out
            have HG5 := hide g5
            have HB5 := hide (below_step HB.out hb5)
            have z0 : w5.cell? ⟨w.heap.size, 0, none⟩ = some (.int .i64 1) := cell_of_row w5 _ 0 _ _ _ g5
            have z1 : w5.cell? ⟨w.heap.size, 1, none⟩ = some (.string s) := cell_of_row w5 _ 1 _ _ _ g5
            have z2 : w5.cell? ⟨w.heap.size, 2, none⟩ = some (.slice A l.length c) := cell_of_row w5 _ 2 _ _ _ g5
            have HLX := hide (lex1 s A c l false r hr w5 ⟨Kd.C_below H.out.1 HB5.out, H.out.2⟩)
            clear y0 y1 y2 hd hb5 g5 hr HB HG
            dsimp only
            go_wp2_with fail
            refine HLX.out.mono ?_
            rintro e w6 ⟨rfl, hb6⟩
            have HG6 := hide ((hb6.block _ (blk_lt HG5.out)).trans HG5.out)
            have HB6 := hide (below_step HB5.out hb6)
            clear hb6 HG5 HB5 HLX z0 z1 z2
            dsimp only
            go_wp2_with fail
            go_roundw
            case rel => exact ⟨1, by omega, by go_num, ⟨HG6.out⟩, ⟨HB6.out⟩⟩
            case measure => simp only [intOf]; omega
          | 1, _ =>
            obtain ⟨r, hr, _, _⟩ := raw_some s true
            go_wp2_with fail
            refine (arbourref6_Raw.calls 9 s true r _ (by rw [raw_ref]; exact hr)).mono ?_
            rintro e w5 ⟨rfl, hd⟩
            have hb5 := hd.below
            have g5 := (hb5.block _ (blk_lt HG.out)).trans HG.out
            have HG5 := hide g5
            have HB5 := hide (below_step HB.out hb5)
            have z0 : w5.cell? ⟨w.heap.size, 0, none⟩ = some (.int .i64 1) := cell_of_row w5 _ 0 _ _ _ g5
            have z1 : w5.cell? ⟨w.heap.size, 1, none⟩ = some (.string s) := cell_of_row w5 _ 1 _ _ _ g5
            have z2 : w5.cell? ⟨w.heap.size, 2, none⟩ = some (.slice A l.length c) := cell_of_row w5 _ 2 _ _ _ g5
            have HLX := hide (lex1 s A c l true r hr w5 ⟨Kd.C_below H.out.1 HB5.out, H.out.2⟩)
            clear y0 y1 y2 hd hb5 g5 hr HB HG
            dsimp only
            go_wp2_with fail
            refine HLX.out.mono ?_
            rintro e w6 ⟨rfl, hb6⟩
            have HG6 := hide ((hb6.block _ (blk_lt HG5.out)).trans HG5.out)
            have HB6 := hide (below_step HB5.out hb6)
            clear hb6 HG5 HB5 HLX z0 z1 z2
            dsimp only
            go_wp2_with fail
            go_roundw
            case rel => exact ⟨2, by omega, by go_num, ⟨HG6.out⟩, ⟨HB6.out⟩⟩
            case measure => simp only [intOf]; omega
        · by_cases q1 : n = 2
          · subst q1
            have y0 : wr.cell? ⟨w.heap.size, 0, none⟩ = some (.int .i64 2) := cell_of_row wr _ 0 _ _ _ HG.out
            have y1 : wr.cell? ⟨w.heap.size, 1, none⟩ = some (.string s) := cell_of_row wr _ 1 _ _ _ HG.out
            have y2 : wr.cell? ⟨w.heap.size, 2, none⟩ = some (.slice A l.length c) := cell_of_row wr _ 2 _ _ _ HG.out
            match k, hlt with
            | 0, _ =>
              have HLX := hide (lex2 s A c l false wr ⟨Kd.C_below H.out.1 HB.out, H.out.2⟩)
              have e21 : ((2 : Int) == 1) = false := by decide
              go_wp2_with fail
              refine HLX.out.mono ?_
              rintro e w6 ⟨rfl, hb6⟩
              have HG6 := hide ((hb6.block _ (blk_lt HG.out)).trans HG.out)
              have HB6 := hide (below_step HB.out hb6)
              clear hb6 HG HB HLX y0 y1 y2
              dsimp only
              go_wp2_with fail
              go_roundw
              case rel => exact ⟨1, by omega, by go_num, ⟨HG6.out⟩, ⟨HB6.out⟩⟩
              case measure => simp only [intOf]; omega
            | 1, _ =>
              have HLX := hide (lex2 s A c l true wr ⟨Kd.C_below H.out.1 HB.out, H.out.2⟩)
              have e21 : ((2 : Int) == 1) = false := by decide
              go_wp2_with fail
              refine HLX.out.mono ?_
              rintro e w6 ⟨rfl, hb6⟩
              have HG6 := hide ((hb6.block _ (blk_lt HG.out)).trans HG.out)
              have HB6 := hide (below_step HB.out hb6)
              clear hb6 HG HB HLX y0 y1 y2
              dsimp only
              go_wp2_with fail
              go_roundw
              case rel => exact ⟨2, by omega, by go_num, ⟨HG6.out⟩, ⟨HB6.out⟩⟩
              case measure => simp only [intOf]; omega
          · have e1 : (n == 1) = false := beq_eq_false_iff_ne.2 q0
            rcases Int.lt_or_le n 1 with q2 | q2
            · have e2 : ¬ 1 ≤ n := by omega
              have y0 : wr.cell? ⟨w.heap.size, 0, none⟩ = some (.int .i64 n) := cell_of_row wr _ 0 _ _ _ HG.out
              have y1 : wr.cell? ⟨w.heap.size, 1, none⟩ = some (.string s) := cell_of_row wr _ 1 _ _ _ HG.out
              have y2 : wr.cell? ⟨w.heap.size, 2, none⟩ = some (.slice A l.length c) := cell_of_row wr _ 2 _ _ _ HG.out
              match k, hlt with
              | 0, _ =>
                go_wp2_with fail
                go_roundw
                case rel => exact ⟨1, by omega, by go_num, ⟨HG.out⟩, ⟨HB.out⟩⟩
                case measure => simp only [intOf]; omega
              | 1, _ =>
                go_wp2_with fail
                go_roundw
                case rel => exact ⟨2, by omega, by go_num, ⟨HG.out⟩, ⟨HB.out⟩⟩
                case measure => simp only [intOf]; omega
            · have e2 : ¬ n ≤ 2 := by omega
              have y0 : wr.cell? ⟨w.heap.size, 0, none⟩ = some (.int .i64 n) := cell_of_row wr _ 0 _ _ _ HG.out
              have y1 : wr.cell? ⟨w.heap.size, 1, none⟩ = some (.string s) := cell_of_row wr _ 1 _ _ _ HG.out
              have y2 : wr.cell? ⟨w.heap.size, 2, none⟩ = some (.slice A l.length c) := cell_of_row wr _ 2 _ _ _ HG.out
              match k, hlt with
              | 0, _ =>
                go_wp2_with fail
                go_roundw
                case rel => exact ⟨1, by omega, by go_num, ⟨HG.out⟩, ⟨HB.out⟩⟩
                case measure => simp only [intOf]; omega
              | 1, _ =>
                go_wp2_with fail
                go_roundw
                case rel => exact ⟨2, by omega, by go_num, ⟨HG.out⟩, ⟨HB.out⟩⟩
                case measure => simp only [intOf]; omega
      · obtain rfl : k = 2 := by omega
        have y0 : wr.cell? ⟨w.heap.size, 0, none⟩ = some (.int .i64 n) := cell_of_row wr _ 0 _ _ _ HG.out
        have y1 : wr.cell? ⟨w.heap.size, 1, none⟩ = some (.string s) := cell_of_row wr _ 1 _ _ _ HG.out
        have y2 : wr.cell? ⟨w.heap.size, 2, none⟩ = some (.slice A l.length c) := cell_of_row wr _ 2 _ _ _ HG.out
        have hri := right n s A c l wr ⟨Kd.C_below H.out.1 HB.out, H.out.2⟩ HN0.out
        rw [HRI.out] at hri
        have HRR := hide hri
        clear hri
        go_wp2_with fail
        refine HRR.out.mono ?_
        rintro e w7 ⟨rfl, hb⟩
        have HB7 := hide (below_step HB.out hb)
        clear hb HB HG y0 y1 y2 HRR
        dsimp only
        go_wp2_with fail
        go_ret
        exact ⟨rfl, HB7.out⟩
end Go.Proofs.Ytpofjfnlchpmbaa.Ctx
