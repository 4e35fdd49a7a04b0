-- PRINTED BY print.sh 35421559b90ae4d0a3588c463048766b98c2df88dd9212a6774a882060cdf62d: not written by this session
import Derived.Test.YtcjbfhnhkohbbaaPNamesRawx0
import Derived.Test.YtcjbfhnhkohbbaaPNamesRawx1
import Derived.Test.YtcjbfhnhkohbbaaPNamesRawx2
namespace Go.Proofs.Ytcjbfhnhkohbbaa.PNamesRaw
open Go.RowKit Go.Proofs.YtcjbfhnhkohbbaaW.PrintWords Go.Proofs.YtcjbfhnhkohbbaaW.PrintLast Go.Proofs.YtcjbfhnhkohbbaaW.PrintMore
attribute [local go_sem] max2_int min2_int max_two min_two max_three min_three max_four min_four   -- for this text's walks alone
set_option linter.unusedVariables false
set_option linter.unusedSimpArgs false

/-! ### arbourlaw6_NamesRaw: function 3 -/
mutual
def arbourlaw6_NamesRaw.l0 : Nat → List ByteArray → Int → Int → Option (Bool)
  | 0, _, _, _ => none
  | k + 1, x17, x18, x19 => if x19 < x18 then (if 0 ≤ x19 then (if x19 < (x17.length : Int) then ((names_Raw.f k (rdOf ByteArray.empty x17 x19) true).bind fun t122 => ((names_Raw.f k (rdOf ByteArray.empty x17 x19) false).bind fun t123 => (if ((t122 != t123) != ((rdOf ByteArray.empty x17 x19).toList == ([110, 111, 115, 99, 114, 105, 112, 116] : List UInt8))) = true then (arbourlaw6_NamesRaw.j1 k (rdOf ByteArray.empty x17 x19) t122 x17 x18 x19 true) else (if t122 < 1 then (arbourlaw6_NamesRaw.j1 k (rdOf ByteArray.empty x17 x19) t122 x17 x18 x19 true) else (if t122 > 4 then (arbourlaw6_NamesRaw.j1 k (rdOf ByteArray.empty x17 x19) t122 x17 x18 x19 true) else (if t123 < 1 then (arbourlaw6_NamesRaw.j1 k (rdOf ByteArray.empty x17 x19) t122 x17 x18 x19 true) else (arbourlaw6_NamesRaw.j1 k (rdOf ByteArray.empty x17 x19) t122 x17 x18 x19 (decide (t123 > 4))))))))) else (none)) else (none)) else ((arbourlaw6_known.f k).bind fun t120 => (some t120))
def arbourlaw6_NamesRaw.j1 : Nat → ByteArray → Int → List ByteArray → Int → Int → Bool → Option (Bool)
  | 0, _, _, _, _, _, _ => none
  | k + 1, x7, x8, x17, x18, x19, x48 => if x48 = true then (some false) else (if x8 = 4 then (if x7.toList = ([112, 108, 97, 105, 110, 116, 101, 120, 116] : List UInt8) then (arbourlaw6_NamesRaw.l0 k x17 x18 (wrap64 (x19 + 1))) else (some false)) else (if x7.toList = ([112, 108, 97, 105, 110, 116, 101, 120, 116] : List UInt8) then (some false) else (arbourlaw6_NamesRaw.l0 k x17 x18 (wrap64 (x19 + 1)))))
end
def arbourlaw6_NamesRaw.f (k : Nat) (a0 : ByteArray) (a1 : Int) : Option (Bool) := (arbourkeep_Names.f a1).bind fun t115 => (if t115.size + 1 ≤ 9223372036854775807 then ((arbourkeep_Head.f a0 20).bind fun t116 => ((some (([t115, t115 ++ (⟨#[120]⟩ : ByteArray), t116, (⟨#[]⟩ : ByteArray)] : List ByteArray) : List ByteArray)).bind fun y117 => (arbourlaw6_NamesRaw.l0 k y117 (y117.length : Int) 0))) else (none))
theorem arbourlaw6_NamesRaw.mono_l : ∀ k, (∀ y0 y1 y2, LeO (arbourlaw6_NamesRaw.l0 k y0 y1 y2) (arbourlaw6_NamesRaw.l0 (k + 1) y0 y1 y2)) ∧ (∀ y0 y1 y2 y3 y4 y5, LeO (arbourlaw6_NamesRaw.j1 k y0 y1 y2 y3 y4 y5) (arbourlaw6_NamesRaw.j1 (k + 1) y0 y1 y2 y3 y4 y5))
  | 0 => ⟨fun _ _ _ r h => by simp [arbourlaw6_NamesRaw.l0] at h, fun _ _ _ _ _ _ r h => by simp [arbourlaw6_NamesRaw.j1] at h⟩
  | k + 1 => by
    obtain ⟨ih0, ih1⟩ := arbourlaw6_NamesRaw.mono_l k
    refine ⟨?_, ?_⟩
    · intro y0 y1 y2
      unfold arbourlaw6_NamesRaw.l0
      repeat' first
      | (with_reducible exact ih0 _ _ _)
      | (with_reducible exact ih1 _ _ _ _ _ _)
      | (with_reducible exact arbourlaw6_known.mono _)
      | (with_reducible exact names_Raw.mono _ _ _)
      | (with_reducible exact LeO.refl _)
      | (with_reducible exact LeO.none _)
      | (with_reducible refine LeO.ite ?_ ?_)
      | (with_reducible refine LeO.bind ?_ (fun _ => ?_))
      | exact ih0 _ _ _
      | exact ih1 _ _ _ _ _ _
      | exact arbourlaw6_known.mono _
      | exact names_Raw.mono _ _ _
      | exact LeO.none _
      | refine LeO.ite ?_ ?_
      | refine LeO.bind ?_ (fun _ => ?_)
    · intro y0 y1 y2 y3 y4 y5
      unfold arbourlaw6_NamesRaw.j1
      repeat' first
      | (with_reducible exact ih0 _ _ _)
      | (with_reducible exact ih1 _ _ _ _ _ _)
      | (with_reducible exact arbourlaw6_known.mono _)
      | (with_reducible exact names_Raw.mono _ _ _)
      | (with_reducible exact LeO.refl _)
      | (with_reducible exact LeO.none _)
      | (with_reducible refine LeO.ite ?_ ?_)
      | (with_reducible refine LeO.bind ?_ (fun _ => ?_))
      | exact ih0 _ _ _
      | exact ih1 _ _ _ _ _ _
      | exact arbourlaw6_known.mono _
      | exact names_Raw.mono _ _ _
      | exact LeO.none _
      | refine LeO.ite ?_ ?_
      | refine LeO.bind ?_ (fun _ => ?_)
theorem arbourlaw6_NamesRaw.mono : ∀ a0 a1 k, LeO (arbourlaw6_NamesRaw.f k a0 a1) (arbourlaw6_NamesRaw.f (k + 1) a0 a1) := by
  intro a0 a1 k
  obtain ⟨ih0, ih1⟩ := arbourlaw6_NamesRaw.mono_l k
  unfold arbourlaw6_NamesRaw.f
  repeat' first
      | (with_reducible exact ih0 _ _ _)
      | (with_reducible exact ih1 _ _ _ _ _ _)
      | (with_reducible exact arbourlaw6_known.mono _)
      | (with_reducible exact names_Raw.mono _ _ _)
      | (with_reducible exact LeO.refl _)
      | (with_reducible exact LeO.none _)
      | (with_reducible refine LeO.ite ?_ ?_)
      | (with_reducible refine LeO.bind ?_ (fun _ => ?_))
      | exact ih0 _ _ _
      | exact ih1 _ _ _ _ _ _
      | exact arbourlaw6_known.mono _
      | exact names_Raw.mono _ _ _
      | exact LeO.none _
      | refine LeO.ite ?_ ?_
      | refine LeO.bind ?_ (fun _ => ?_)
set_option maxHeartbeats 8000000 in
set_option maxRecDepth 100000 in
theorem arbourlaw6_NamesRaw.calls (k : Nat) (a0 : ByteArray) (a1 : Int) (r : Bool) (w : World) (h : arbourlaw6_NamesRaw.f k a0 a1 = some r) :
    Calls Try.prog 3 #[.string a0, .int .i64 a1] w fun e w' => e = .returned (.bool r) ∧ Below w.heap.size w w' := by
  have HB := Aside0.mk (Below.refl w.heap.size w)
  have H : ((arbourkeep_Names.f a1).bind fun t115 => (if t115.size + 1 ≤ 9223372036854775807 then ((arbourkeep_Head.f a0 20).bind fun t116 => ((some (([t115, t115 ++ (⟨#[120]⟩ : ByteArray), t116, (⟨#[]⟩ : ByteArray)] : List ByteArray) : List ByteArray)).bind fun y117 => (arbourlaw6_NamesRaw.l0 k y117 (y117.length : Int) 0))) else (none))) = some r := h
  clear h
  replace H := Option.bind_eq_some_iff.mp H
  obtain ⟨t115, A30, H⟩ := H
  replace H : (if t115.size + 1 ≤ 9223372036854775807 then ((arbourkeep_Head.f a0 20).bind fun t116 => ((some (([t115, t115 ++ (⟨#[120]⟩ : ByteArray), t116, (⟨#[]⟩ : ByteArray)] : List ByteArray) : List ByteArray)).bind fun y117 => (arbourlaw6_NamesRaw.l0 k y117 (y117.length : Int) 0))) else (none)) = some r := H
  have A3 := Aside0.mk A30
  clear A30
  by_cases c4 : t115.size + 1 ≤ 9223372036854775807
  · rw [if_pos c4] at H
    have c4b0 := eq_true c4
    have c4b1 : decide (t115.size + 1 ≤ 9223372036854775807) = true := decide_eq_true c4
    try have c4b2 : (9223372036854775807 < t115.size + 1) = False := eq_false (Nat.not_lt.2 c4)
    replace H := Option.bind_eq_some_iff.mp H
    obtain ⟨t116, A50, H⟩ := H
    replace H : ((some (([t115, t115 ++ (⟨#[120]⟩ : ByteArray), t116, (⟨#[]⟩ : ByteArray)] : List ByteArray) : List ByteArray)).bind fun y117 => (arbourlaw6_NamesRaw.l0 k y117 (y117.length : Int) 0)) = some r := H
    have A5 := Aside0.mk A50
    clear A50
    obtain ⟨y117, hy117⟩ : ∃ y_ : List ByteArray, y_ = (([t115, t115 ++ (⟨#[120]⟩ : ByteArray), t116, (⟨#[]⟩ : ByteArray)] : List ByteArray)) := ⟨_, rfl⟩
    replace H : (arbourlaw6_NamesRaw.l0 k y117 (y117.length : Int) 0) = some r := by first | (rw [hy117]; with_reducible exact H) | (have H2_ := (Option.bind_some _ _).symm.trans H; rw [hy117]; with_reducible exact H2_) | (have H2_ := (Option.bind_some _ _).symm.trans H; with_reducible exact H2_) | with_reducible exact H | (rw [hy117]; exact H) | exact H
    have Ny117 := Aside0.mk hy117
    clear hy117
    have H' := Aside0.mk H
    clear H
    go_enter Try.func3, Try.ntmps3
    go_wp2_with (first | ((with_reducible refine gate_callee (f := 7) rfl ?_); refine goesL_ (some 11) rfl rfl Try.func7 (by kernel_rfl) rfl #[.int .i64 a1] rfl (by (try simp only [List.map_toArray, List.map_cons, List.map_nil]); first | done | rfl | (simp only [List.length_drop, List.length_take]; rfl)) ?_; (with_reducible refine (arbourkeep_Names.calls a1 t115 _ A3.out).mono ?_); rintro e w6 ⟨rfl, hb⟩; refine ⟨_, rfl, ?_⟩; have n0_ := Aside0.mk (below_step (by repeat (first | (with_reducible first | exact HB.out | apply below_alloc | apply pw_below_drewN | apply below_drew1) | exact HB.out)) hb); clear HB; have HB := n0_; clear n0_; (try clear hb); (try clear hb2); (try clear hk); (try clear hi)) | ((with_reducible refine gate_callee (f := 8) rfl ?_); refine goesL_ (some 16) rfl rfl Try.func8 (by kernel_rfl) rfl #[.string a0, .int .i64 20] rfl (by (try simp only [List.map_toArray, List.map_cons, List.map_nil]); first | done | rfl | (simp only [List.length_drop, List.length_take]; rfl)) ?_; (with_reducible refine (arbourkeep_Head.calls a0 20 t116 _ A5.out).mono ?_); rintro e w' ⟨rfl, ⟨nd, rfl⟩⟩; refine ⟨_, rfl, ?_⟩) | ((with_reducible refine gate_dst (N := 17) rfl ?_); refine Kd.R_lit Kd.string _ 9 ?hg (N := 17) ?hd (xs := ([t115, t115 ++ (⟨#[120]⟩ : ByteArray), t116, (⟨#[]⟩ : ByteArray)] : List ByteArray)) (inner := [.string t115, .string (t115 ++ (⟨#[120]⟩ : ByteArray)), .string t116, .string (⟨#[]⟩ : ByteArray)]) (ok := fun _ => True) (okp := fun _ => True) ?hr ?hp (fun _ hk => hk) trivial (Below.refl _ _) (Nat.le_refl _) (by simp) ?_; (case hd => rfl); (case hg => rfl); (case hr => first | (go_simp; done) | (go_simp; rfl)); (case hp => exact (Reps.one (show Kd.M Kd.string _ _ _ t115 [.string t115] from rfl) (Reps.one (show Kd.M Kd.string _ _ _ (t115 ++ (⟨#[120]⟩ : ByteArray)) [.string (t115 ++ (⟨#[120]⟩ : ByteArray))] from rfl) (Reps.one (show Kd.M Kd.string _ _ _ t116 [.string t116] from rfl) (Reps.one (show Kd.M Kd.string _ _ _ (⟨#[]⟩ : ByteArray) [.string (⟨#[]⟩ : ByteArray)] from rfl) (Reps.none _ _)))))); intro v118 w7 ho8 hb hg_ hnew_; clear hg_ hnew_; (first | rw [← Ny117.out] at ho8 | (simp only [Int.reduceToNat] at ho8; rw [← Ny117.out] at ho8)); have n0_ := Aside0.mk (Kd.R_lower ho8 (below_size (by repeat (first | (with_reducible first | exact HB.out | apply below_alloc | apply pw_below_drewN | apply below_drew1) | exact HB.out)))); have n1_ := Aside0.mk (below_step (by repeat (first | (with_reducible first | exact HB.out | apply below_alloc | apply pw_below_drewN | apply below_drew1) | exact HB.out)) hb); clear HB; have HO119 := n0_; have HB := n1_; clear n0_ n1_; clear hb ho8; obtain ⟨Ao9, co9, eo9⟩ := Kd.R_slice HO119.out; subst eo9))
    go_loopg [19] k (fun kq v19 w' => ∃ (x19_1 : Int), v19 = .int .i64 x19_1 ∧ Aside0 (arbourlaw6_NamesRaw.l0 kq y117 (y117.length : Int) x19_1 = some r) ∧ Aside0 (kq ≤ k) ∧ Aside0 (Kd.R Kd.string 9 w' w.heap.size (fun _ => True) (.slice Ao9 y117.length co9) y117) ∧ Aside0 (Below w.heap.size w w'))
    case atStart => exact ⟨(0), (by first | rfl | (simp; done) | (simp [*]; done)), H', ⟨Nat.le_refl _⟩, ⟨by (with_reducible repeat (first | apply Kd.R_alloc | apply Kd.R_drewN | apply Kd.R_drew)); exact HO119.out⟩, ⟨by repeat (first | (with_reducible first | exact HB.out | apply below_alloc | apply pw_below_drewN | apply below_drew1) | exact HB.out)⟩⟩
    case round =>
      clear H'
      try clear p2
      try clear c3
      try clear c4
      try clear c4b0
      try clear c4b1
      try clear c4b2
      try clear c7
      try clear c8
      obtain ⟨x19_1, rfl, HA, HK1, HO_17, HB⟩ := hrel
      cases gk with
      | zero => exact absurd HA.out (by simp [arbourlaw6_NamesRaw.l0])
      | succ k1 =>
        have H := HA.out
        clear HA
        simp only [arbourlaw6_NamesRaw.l0] at H
        by_cases c10 : x19_1 < (y117.length : Int)
        · rw [if_pos c10] at H
          have c10b0 : decide (x19_1 < (y117.length : Int)) = true := decide_eq_true c10
          clear c10
          by_cases c11 : 0 ≤ x19_1
          · rw [if_pos c11] at H
            have c11b0 : decide (0 ≤ x19_1) = true := decide_eq_true c11
            clear c11
            by_cases c12 : x19_1 < (y117.length : Int)
            · rw [if_pos c12] at H
              have c12b0 : decide (x19_1 < (y117.length : Int)) = true := decide_eq_true c12
              clear c12
              replace H := Option.bind_eq_some_iff.mp H
              obtain ⟨t122, A130, H⟩ := H
              replace H : ((names_Raw.f k1 (rdOf ByteArray.empty y117 x19_1) false).bind fun t123 => (if ((t122 != t123) != ((rdOf ByteArray.empty y117 x19_1).toList == ([110, 111, 115, 99, 114, 105, 112, 116] : List UInt8))) = true then (arbourlaw6_NamesRaw.j1 k1 (rdOf ByteArray.empty y117 x19_1) t122 y117 (y117.length : Int) x19_1 true) else (if t122 < 1 then (arbourlaw6_NamesRaw.j1 k1 (rdOf ByteArray.empty y117 x19_1) t122 y117 (y117.length : Int) x19_1 true) else (if t122 > 4 then (arbourlaw6_NamesRaw.j1 k1 (rdOf ByteArray.empty y117 x19_1) t122 y117 (y117.length : Int) x19_1 true) else (if t123 < 1 then (arbourlaw6_NamesRaw.j1 k1 (rdOf ByteArray.empty y117 x19_1) t122 y117 (y117.length : Int) x19_1 true) else (arbourlaw6_NamesRaw.j1 k1 (rdOf ByteArray.empty y117 x19_1) t122 y117 (y117.length : Int) x19_1 (decide (t123 > 4)))))))) = some r := H
              have A13 := Aside0.mk A130
              clear A130
              replace H := Option.bind_eq_some_iff.mp H
              obtain ⟨t123, A140, H⟩ := H
              replace H : (if ((t122 != t123) != ((rdOf ByteArray.empty y117 x19_1).toList == ([110, 111, 115, 99, 114, 105, 112, 116] : List UInt8))) = true then (arbourlaw6_NamesRaw.j1 k1 (rdOf ByteArray.empty y117 x19_1) t122 y117 (y117.length : Int) x19_1 true) else (if t122 < 1 then (arbourlaw6_NamesRaw.j1 k1 (rdOf ByteArray.empty y117 x19_1) t122 y117 (y117.length : Int) x19_1 true) else (if t122 > 4 then (arbourlaw6_NamesRaw.j1 k1 (rdOf ByteArray.empty y117 x19_1) t122 y117 (y117.length : Int) x19_1 true) else (if t123 < 1 then (arbourlaw6_NamesRaw.j1 k1 (rdOf ByteArray.empty y117 x19_1) t122 y117 (y117.length : Int) x19_1 true) else (arbourlaw6_NamesRaw.j1 k1 (rdOf ByteArray.empty y117 x19_1) t122 y117 (y117.length : Int) x19_1 (decide (t123 > 4))))))) = some r := H
              have A14 := Aside0.mk A140
              clear A140
              have HC15 := Aside0.mk H
              clear H
              have p121 : 0 ≤ (x19_1 : Int) := of_decide_eq_true (by first | (with_reducible assumption) | assumption)
              have q121 : x19_1 < (y117.length : Int) := of_decide_eq_true (by first | (with_reducible assumption) | assumption)
              obtain ⟨ad121, e121, hx121_0⟩ := Kd.at_string (Kd.R_reads' HO_17.out).2.2 x19_1 p121 q121
              cases e121
              replace p121 := eq_true p121
              replace q121 := eq_true q121
              go_upto_region 6 with (first | ((with_reducible refine gate_callee (f := 9) rfl ?_); refine goesL_ (some 24) rfl rfl Try.func9 (by kernel_rfl) rfl #[.string (rdOf ByteArray.empty y117 x19_1), .bool true] rfl (by (try simp only [List.map_toArray, List.map_cons, List.map_nil]); first | done | rfl | (simp only [List.length_drop, List.length_take]; rfl)) ?_; (with_reducible refine (names_Raw.calls k1 (rdOf ByteArray.empty y117 x19_1) true t122 _ A13.out).mono ?_); rintro e w' ⟨rfl, ⟨nd, rfl⟩⟩; refine ⟨_, rfl, ?_⟩) | ((with_reducible refine gate_callee (f := 9) rfl ?_); refine goesL_ (some 26) rfl rfl Try.func9 (by kernel_rfl) rfl #[.string (rdOf ByteArray.empty y117 x19_1), .bool false] rfl (by (try simp only [List.map_toArray, List.map_cons, List.map_nil]); first | done | rfl | (simp only [List.length_drop, List.length_take]; rfl)) ?_; (with_reducible refine (names_Raw.calls k1 (rdOf ByteArray.empty y117 x19_1) false t123 _ A14.out).mono ?_); rintro e w' ⟨rfl, ⟨nd, rfl⟩⟩; refine ⟨_, rfl, ?_⟩))
              (try simp only [Act.put, List.setIfInBounds_toArray, List.set_cons_zero, List.set_cons_succ])
              go_cut [48] (fun v48 wc => ∃ (kq : Nat) (x48_14 : Bool), v48 = .bool x48_14 ∧ Aside0 (arbourlaw6_NamesRaw.j1 kq (rdOf ByteArray.empty y117 x19_1) t122 y117 (y117.length : Int) x19_1 x48_14 = some r) ∧ Aside0 (kq ≤ k1) ∧ Aside0 (Kd.R Kd.string 9 wc w.heap.size (fun _ => True) (.slice (some ad121) y117.length co9) y117) ∧ Aside0 (Below w.heap.size w wc))
              case first =>
                have H := HC15.out
                clear HC15
                by_cases c16 : ((t122 != t123) != ((rdOf ByteArray.empty y117 x19_1).toList == ([110, 111, 115, 99, 114, 105, 112, 116] : List UInt8))) = true
                · rw [if_pos c16] at H
                  have c16b0 : ((t122 != t123) != ((rdOf ByteArray.empty y117 x19_1).toList == ([110, 111, 115, 99, 114, 105, 112, 116] : List UInt8))) = true := c16
                  (try (have c16b1 : decide ((t122 != t123) = ((rdOf ByteArray.empty y117 x19_1).toList == ([110, 111, 115, 99, 114, 105, 112, 116] : List UInt8))) = false := by simpa using c16))
                  (try (have c16b2 : ((t122 != t123) == ((rdOf ByteArray.empty y117 x19_1).toList == ([110, 111, 115, 99, 114, 105, 112, 116] : List UInt8))) = false := by simpa using c16))
                  (try (have c16b3 : ¬ ((t122 != t123) = ((rdOf ByteArray.empty y117 x19_1).toList == ([110, 111, 115, 99, 114, 105, 112, 116] : List UInt8))) := by simpa using c16))
                  clear c16
                  (first | rw [c16b0] | (simp only [i64_w, i32_w]; rw [c16b0]) | skip)
                  have H' := Aside0.mk H
                  clear H
                  go_wp2
                  go_meet
                  case rel => exact ⟨_, (true), (by first | rfl | (simp; done) | (simp [*]; done)), H', ⟨by have := HK1.out; first | omega | exact Nat.le_refl _⟩, ⟨by (with_reducible repeat (first | apply Kd.R_alloc | apply Kd.R_drewN | apply Kd.R_drew)); exact HO_17.out⟩, ⟨by repeat (first | (with_reducible first | exact HB.out | apply below_alloc | apply pw_below_drewN | apply below_drew1) | exact HB.out)⟩⟩
                · rw [if_neg c16] at H
                  have c16b0 : ((t122 != t123) != ((rdOf ByteArray.empty y117 x19_1).toList == ([110, 111, 115, 99, 114, 105, 112, 116] : List UInt8))) = false := by simpa using c16
                  (try (have c16b1 : decide ((t122 != t123) = ((rdOf ByteArray.empty y117 x19_1).toList == ([110, 111, 115, 99, 114, 105, 112, 116] : List UInt8))) = true := by simpa using c16))
                  (try (have c16b2 : ((t122 != t123) == ((rdOf ByteArray.empty y117 x19_1).toList == ([110, 111, 115, 99, 114, 105, 112, 116] : List UInt8))) = true := by simpa using c16))
                  clear c16
                  (first | rw [c16b0] | (simp only [i64_w, i32_w]; rw [c16b0]) | skip)
                  by_cases c17 : t122 < 1
                  · rw [if_pos c17] at H
                    have c17b0 : decide (t122 < 1) = true := decide_eq_true c17
                    clear c17
                    have H' := Aside0.mk H
                    clear H
                    go_wp2
                    go_meet
                    case rel => exact ⟨_, (true), (by first | rfl | (simp; done) | (simp [*]; done)), H', ⟨by have := HK1.out; first | omega | exact Nat.le_refl _⟩, ⟨by (with_reducible repeat (first | apply Kd.R_alloc | apply Kd.R_drewN | apply Kd.R_drew)); exact HO_17.out⟩, ⟨by repeat (first | (with_reducible first | exact HB.out | apply below_alloc | apply pw_below_drewN | apply below_drew1) | exact HB.out)⟩⟩
                  · rw [if_neg c17] at H
                    have c17b0 : decide (t122 < 1) = false := decide_eq_false c17
                    clear c17
                    by_cases c18 : t122 > 4
                    · rw [if_pos c18] at H
                      have c18b0 : decide (4 < t122) = true := decide_eq_true c18
                      clear c18
                      have H' := Aside0.mk H
                      clear H
                      go_wp2
                      go_meet
                      case rel => exact ⟨_, (true), (by first | rfl | (simp; done) | (simp [*]; done)), H', ⟨by have := HK1.out; first | omega | exact Nat.le_refl _⟩, ⟨by (with_reducible repeat (first | apply Kd.R_alloc | apply Kd.R_drewN | apply Kd.R_drew)); exact HO_17.out⟩, ⟨by repeat (first | (with_reducible first | exact HB.out | apply below_alloc | apply pw_below_drewN | apply below_drew1) | exact HB.out)⟩⟩
                    · rw [if_neg c18] at H
                      have c18b0 : decide (4 < t122) = false := decide_eq_false c18
                      clear c18
                      by_cases c19 : t123 < 1
                      · rw [if_pos c19] at H
                        have c19b0 : decide (t123 < 1) = true := decide_eq_true c19
                        clear c19
                        have H' := Aside0.mk H
                        clear H
                        go_wp2
                        go_meet
                        case rel => exact ⟨_, (true), (by first | rfl | (simp; done) | (simp [*]; done)), H', ⟨by have := HK1.out; first | omega | exact Nat.le_refl _⟩, ⟨by (with_reducible repeat (first | apply Kd.R_alloc | apply Kd.R_drewN | apply Kd.R_drew)); exact HO_17.out⟩, ⟨by repeat (first | (with_reducible first | exact HB.out | apply below_alloc | apply pw_below_drewN | apply below_drew1) | exact HB.out)⟩⟩
                      · rw [if_neg c19] at H
                        have c19b0 : decide (t123 < 1) = false := decide_eq_false c19
                        clear c19
                        have H' := Aside0.mk H
                        clear H
                        go_wp2
                        go_meet
                        case rel => exact ⟨_, (decide (t123 > 4)), (by first | rfl | (simp; done) | (simp [*]; done)), H', ⟨by have := HK1.out; first | omega | exact Nat.le_refl _⟩, ⟨by (with_reducible repeat (first | apply Kd.R_alloc | apply Kd.R_drewN | apply Kd.R_drew)); exact HO_17.out⟩, ⟨by repeat (first | (with_reducible first | exact HB.out | apply below_alloc | apply pw_below_drewN | apply below_drew1) | exact HB.out)⟩⟩
              case rest =>
                clear HC15
                try clear c1
                try clear p1
                try clear q1
                try clear hx1
                try clear p2
                try clear c3
                try clear c4
                try clear c4b0
                try clear c4b1
                try clear c4b2
                try clear c7
                try clear c8
                try clear c9
                try clear c10
                try clear c10b0
                try clear c11
                try clear c11b0
                try clear c12
                try clear c12b0
                try clear p12
                try clear q12
                try clear hx12
                try clear c16
                try clear c16b0
                try clear c16b1
                try clear c16b2
                try clear c17
                try clear c17b0
                try clear c18
                try clear c18b0
                try clear c19
                try clear c19b0
                try clear hx121_0
                try clear p121
                try clear p2
                try clear q121
                obtain ⟨kq, x48_14, rfl, HA, HJ14, HO_17, HB⟩ := hcut
                cases kq with
                | zero => exact absurd HA.out (by simp [arbourlaw6_NamesRaw.j1])
                | succ kj14 =>
                  have H := HA.out
                  clear HA
                  simp only [arbourlaw6_NamesRaw.j1] at H
                  by_cases c20 : x48_14 = true
                  · subst c20
                    have H1 : (some false) = some r := by rw [if_pos rfl] at H; exact H
                    clear H
                    have H := H1
                    clear H1
                    obtain rfl := Option.some.inj H
                    go_wp2
                    go_ret
                    exact ⟨by first | rfl | (simp [errW_none, errW_some] <;> rfl) | (simp [*, errW_none, errW_some] <;> rfl), by repeat (first | (with_reducible first | exact HB.out | apply below_alloc | apply pw_below_drewN | apply below_drew1) | exact HB.out)⟩
                  · replace c20 := Bool.eq_false_iff.mpr c20
                    subst c20
                    have H1 : (if t122 = 4 then (if (rdOf ByteArray.empty y117 x19_1).toList = ([112, 108, 97, 105, 110, 116, 101, 120, 116] : List UInt8) then (arbourlaw6_NamesRaw.l0 kj14 y117 (y117.length : Int) (wrap64 (x19_1 + 1))) else (some false)) else (if (rdOf ByteArray.empty y117 x19_1).toList = ([112, 108, 97, 105, 110, 116, 101, 120, 116] : List UInt8) then (some false) else (arbourlaw6_NamesRaw.l0 kj14 y117 (y117.length : Int) (wrap64 (x19_1 + 1))))) = some r := by rw [if_neg (show ¬ (false = true) by decide)] at H; exact H
                    clear H
                    have H := H1
                    clear H1
                    by_cases c21 : t122 = 4
                    · rw [if_pos c21] at H
                      have c21b0 : (t122 == 4) = true := beq_iff_eq.mpr c21
                      have c21b1 : (t122 != 4) = false := bne_eq_false_iff_eq.mpr c21
                      clear c21
                      by_cases c22 : (rdOf ByteArray.empty y117 x19_1).toList = ([112, 108, 97, 105, 110, 116, 101, 120, 116] : List UInt8)
                      · rw [if_pos c22] at H
                        have c22b0 : ((rdOf ByteArray.empty y117 x19_1).toList == ([112, 108, 97, 105, 110, 116, 101, 120, 116] : List UInt8)) = true := beq_iff_eq.mpr c22
                        have c22b1 : ((rdOf ByteArray.empty y117 x19_1).toList != ([112, 108, 97, 105, 110, 116, 101, 120, 116] : List UInt8)) = false := bne_eq_false_iff_eq.mpr c22
                        clear c22
                        have H' := Aside0.mk H
                        clear H
                        go_wp2
                        go_roundg kj14
                        case measure => have := HK1.out; have := HJ14.out; omega
                        case rel => exact ⟨(wrap64 (x19_1 + 1)), (by first | rfl | (simp; done) | (simp [*]; done)), H', ⟨by have := HK1.out; have := HJ14.out; omega⟩, ⟨by (with_reducible repeat (first | apply Kd.R_alloc | apply Kd.R_drewN | apply Kd.R_drew)); exact HO_17.out⟩, ⟨by repeat (first | (with_reducible first | exact HB.out | apply below_alloc | apply pw_below_drewN | apply below_drew1) | exact HB.out)⟩⟩
                      · rw [if_neg c22] at H
                        have c22b0 : ((rdOf ByteArray.empty y117 x19_1).toList == ([112, 108, 97, 105, 110, 116, 101, 120, 116] : List UInt8)) = false := beq_eq_false_iff_ne.mpr c22
                        have c22b1 : ((rdOf ByteArray.empty y117 x19_1).toList != ([112, 108, 97, 105, 110, 116, 101, 120, 116] : List UInt8)) = true := bne_iff_ne.mpr c22
                        obtain rfl := Option.some.inj H
                        go_wp2
                        go_ret
                        exact ⟨by first | rfl | (simp [errW_none, errW_some] <;> rfl) | (simp [*, errW_none, errW_some] <;> rfl), by repeat (first | (with_reducible first | exact HB.out | apply below_alloc | apply pw_below_drewN | apply below_drew1) | exact HB.out)⟩
                    · rw [if_neg c21] at H
                      have c21b0 : (t122 == 4) = false := beq_eq_false_iff_ne.mpr c21
                      have c21b1 : (t122 != 4) = true := bne_iff_ne.mpr c21
                      by_cases c23 : (rdOf ByteArray.empty y117 x19_1).toList = ([112, 108, 97, 105, 110, 116, 101, 120, 116] : List UInt8)
                      · rw [if_pos c23] at H
                        have c23b0 : ((rdOf ByteArray.empty y117 x19_1).toList == ([112, 108, 97, 105, 110, 116, 101, 120, 116] : List UInt8)) = true := beq_iff_eq.mpr c23
                        have c23b1 : ((rdOf ByteArray.empty y117 x19_1).toList != ([112, 108, 97, 105, 110, 116, 101, 120, 116] : List UInt8)) = false := bne_eq_false_iff_eq.mpr c23
                        clear c23
                        obtain rfl := Option.some.inj H
                        go_wp2
                        go_ret
                        exact ⟨by first | rfl | (simp [errW_none, errW_some] <;> rfl) | (simp [*, errW_none, errW_some] <;> rfl), by repeat (first | (with_reducible first | exact HB.out | apply below_alloc | apply pw_below_drewN | apply below_drew1) | exact HB.out)⟩
                      · rw [if_neg c23] at H
                        have c23b0 : ((rdOf ByteArray.empty y117 x19_1).toList == ([112, 108, 97, 105, 110, 116, 101, 120, 116] : List UInt8)) = false := beq_eq_false_iff_ne.mpr c23
                        have c23b1 : ((rdOf ByteArray.empty y117 x19_1).toList != ([112, 108, 97, 105, 110, 116, 101, 120, 116] : List UInt8)) = true := bne_iff_ne.mpr c23
                        have H' := Aside0.mk H
                        clear H
                        go_wp2
                        go_roundg kj14
                        case measure => have := HK1.out; have := HJ14.out; omega
                        case rel => exact ⟨(wrap64 (x19_1 + 1)), (by first | rfl | (simp; done) | (simp [*]; done)), H', ⟨by have := HK1.out; have := HJ14.out; omega⟩, ⟨by (with_reducible repeat (first | apply Kd.R_alloc | apply Kd.R_drewN | apply Kd.R_drew)); exact HO_17.out⟩, ⟨by repeat (first | (with_reducible first | exact HB.out | apply below_alloc | apply pw_below_drewN | apply below_drew1) | exact HB.out)⟩⟩
            · rw [if_neg c12] at H
              exact absurd H (by simp)
          · rw [if_neg c11] at H
            exact absurd H (by simp)
        · rw [if_neg c10] at H
          have c10b0 : decide (x19_1 < (y117.length : Int)) = false := decide_eq_false c10
          clear c10
          replace H := Option.bind_eq_some_iff.mp H
          obtain ⟨t120, A240, H⟩ := H
          replace H : (some t120) = some r := H
          have A24 := Aside0.mk A240
          clear A240
          obtain rfl := Option.some.inj H
          go_wp2_with (first | ((with_reducible refine gate_callee (f := 10) rfl ?_); refine goesL_ (some 64) rfl rfl Try.func10 (by kernel_rfl) rfl #[] rfl (by (try simp only [List.map_toArray, List.map_cons, List.map_nil]); first | done | rfl | (simp only [List.length_drop, List.length_take]; rfl)) ?_; (with_reducible refine (arbourlaw6_known.calls k1  t120 _ A24.out).mono ?_); rintro e w' ⟨rfl, ⟨nd, rfl⟩⟩; refine ⟨_, rfl, ?_⟩))
          go_ret
          exact ⟨by first | rfl | (simp [errW_none, errW_some] <;> rfl) | (simp [*, errW_none, errW_some] <;> rfl), by repeat (first | (with_reducible first | exact HB.out | apply below_alloc | apply pw_below_drewN | apply below_drew1) | exact HB.out)⟩
  · rw [if_neg c4] at H
    exact absurd H (by simp)

/-- THE ONE PURE STATEMENT of arbourlaw6_NamesRaw: yours. -/
def arbourlaw6_NamesRaw.Pure : Prop := ∀ (a0 : ByteArray) (a1 : Int), a0.size ≤ 140737488351232 → (Lit.int .i64 a1).wf = true → ∃ k, arbourlaw6_NamesRaw.f k a0 a1 = some true
theorem arbourlaw6_NamesRaw.walk (P : arbourlaw6_NamesRaw.Pure) (a0 : ByteArray) (a1 : Int) (w : World) (w0 : a0.size ≤ 140737488351232) (w1 : (Lit.int .i64 a1).wf = true) :
    Calls Try.prog 3 #[.string a0, .int .i64 a1] w fun e w' => e = .returned (.bool true) ∧ Below w.heap.size w w' := by
  obtain ⟨k, h⟩ := P a0 a1 w0 w1
  refine (arbourlaw6_NamesRaw.calls k a0 a1 true w h).mono ?_
  rintro e w' ⟨rfl, hd⟩
  exact ⟨rfl, hd⟩

end Go.Proofs.Ytcjbfhnhkohbbaa.PNamesRaw
