/- Plain laws for OpOwn: what a Kind does not name may not be there. The walk of known. -/
import Derived.Test.YtbljbgjecnmeeaaDoorOpRight
import Derived.Test.YtbljbgjecnmeeaaDoorOpText
namespace Go.Proofs.YtbljbgjecnmeeaaDoor.OpP
open Go.RowKit Go.Proofs.YtbljbgjecnmeeaaDoor.POpTells Go.Proofs.YtbljbgjecnmeeaaDoorW.PrintWords Go.Proofs.YtbljbgjecnmeeaaDoorW.PrintLast
set_option linter.unusedVariables false
set_option linter.unusedSimpArgs false
theorem attrEq_refl (l : List S32) : attrEq l l = true := by unfold attrEq; exact beq_self_eq_true _
theorem sameB_refl (o : S24) : sameB o o = true := by unfold sameB; simp [attrEq_refl]
/-- What is true of whatever a tame 'made' makes. -/
structure Tame (y : S24) : Prop where
  right : rightB y = true
  n1 : 0 ≤ y.f1 ∧ y.f1 ≤ 2147483647
  n2 : 0 ≤ y.f2 ∧ y.f2 ≤ 2147483647
  n3 : 0 ≤ y.f3 ∧ y.f3 ≤ 2147483647
  n0 : 1 ≤ y.f0 ∧ y.f0 ≤ 11
  n4 : 0 ≤ y.f4 ∧ y.f4 ≤ 3
  n5 : 0 ≤ y.f5 ∧ y.f5 ≤ 2
  s6 : y.f6.size ≤ 20
  s7 : y.f7 = [] ∨ ∃ l, y.f7 = shortL l
  s8 : y.f8.size ≤ 30
theorem num_with (a : Int) : numB (withL a 2147483647 : Int) = true := by
  have := (with_some a 2147483647 (by omega)).2
  unfold numB
  rw [decide_eq_true (by omega), decide_eq_true (by omega)]
  rfl
theorem num_0 : numB 0 = true := by decide
theorem tame_made (o : S24) (k : Nat) : Tame (madeN o k) := by
  have b1 := (with_some o.f1 2147483647 (by omega)).2
  have b2 := (with_some o.f2 2147483647 (by omega)).2
  have b3 := (with_some o.f3 2147483647 (by omega)).2
  have b4 := (with_some o.f4 1 (by omega)).2
  have b5 := (with_some o.f5 2 (by omega)).2
  have c6 := capL_size o.f6 20
  have c8 := capL_size o.f8 30
  have r1 := num_with o.f1
  have r2 := num_with o.f2
  have r3 := num_with o.f3
  have z : (⟨#[]⟩ : ByteArray).size ≤ 20 := by decide
  have z' : (⟨#[]⟩ : ByteArray).size ≤ 30 := by decide
  match k with
  | 0 =>
    refine ⟨?_, ?_, ?_, ?_, ?_, ?_, ?_, c6, .inr ⟨_, rfl⟩, c8⟩ <;> try (simp only [madeN]; omega)
    simp only [madeN, rightB, askedL, if_pos, sameB, attrEq_refl, beq_self_eq_true, Bool.and_true, Bool.true_and, r1, num_0]
    have h4 : withL o.f4 1 = 0 ∨ withL o.f4 1 = 1 := by omega
    have h5 : (0 : Int) ≤ (withL o.f5 2 : Int) ∧ (withL o.f5 2 : Int) ≤ 2 := by omega
    rw [decide_eq_true h5.1, decide_eq_true h5.2]
    rcases h4 with h4 | h4 <;> (rw [h4]; decide)
  | 1 =>
    refine ⟨?_, ?_, ?_, ?_, ?_, ?_, ?_, z, .inl rfl, z'⟩ <;> try (simp only [madeN]; omega)
    simp [madeN, rightB, askedL, sameB, attrEq_refl, r1, r2, r3, num_0]; decide
  | 2 =>
    refine ⟨?_, ?_, ?_, ?_, ?_, ?_, ?_, z, .inl rfl, z'⟩ <;> try (simp only [madeN]; omega)
    simp [madeN, rightB, askedL, sameB, attrEq_refl, r1, r2, r3, num_0]; decide
  | 3 =>
    refine ⟨?_, ?_, ?_, ?_, ?_, ?_, ?_, z, .inl rfl, z'⟩ <;> try (simp only [madeN]; omega)
    simp [madeN, rightB, askedL, sameB, attrEq_refl, r1, r2, r3, num_0]; decide
  | 4 =>
    refine ⟨?_, ?_, ?_, ?_, ?_, ?_, ?_, z, .inl rfl, c8⟩ <;> try (simp only [madeN]; omega)
    simp [madeN, rightB, askedL, sameB, attrEq_refl, r1, r2, r3, num_0]; decide
  | 5 =>
    refine ⟨?_, ?_, ?_, ?_, ?_, ?_, ?_, z, .inl rfl, c8⟩ <;> try (simp only [madeN]; omega)
    simp [madeN, rightB, askedL, sameB, attrEq_refl, r1, r2, r3, num_0]; decide
  | 6 =>
    refine ⟨?_, ?_, ?_, ?_, ?_, ?_, ?_, z, .inl rfl, z'⟩ <;> try (simp only [madeN]; omega)
    simp [madeN, rightB, askedL, sameB, attrEq_refl, r1, r2, r3, num_0]; decide
  | 7 =>
    refine ⟨?_, ?_, ?_, ?_, ?_, ?_, ?_, z, .inl rfl, z'⟩ <;> try (simp only [madeN]; omega)
    simp [madeN, rightB, askedL, sameB, attrEq_refl, r1, r2, r3, num_0]; decide
  | 8 =>
    refine ⟨?_, ?_, ?_, ?_, ?_, ?_, ?_, z, .inl rfl, z'⟩ <;> try (simp only [madeN]; omega)
    simp [madeN, rightB, askedL, sameB, attrEq_refl, r1, r2, r3, num_0]; decide
  | 9 =>
    refine ⟨?_, ?_, ?_, ?_, ?_, ?_, ?_, z, .inr ⟨_, rfl⟩, z'⟩ <;> try (simp only [madeN]; omega)
    simp [madeN, rightB, askedL, sameB, attrEq_refl, r1, r2, r3, num_0]; decide
  | k + 10 =>
    refine ⟨?_, ?_, ?_, ?_, ?_, ?_, ?_, z, .inl rfl, z'⟩ <;> try (simp only [madeN]; omega)
    simp [madeN, rightB, askedL, sameB, attrEq_refl, num_0]; decide
theorem own_x {y : S24} (h : Tame y) : rightB { y with f5 := 3 } = false ∧ sameB y { y with f5 := 3 } = false := by
  have h5 := h.n5
  refine ⟨?_, ?_⟩
  · unfold rightB
    simp
  · unfold sameB
    rw [show (y.f5 == 3) = false from beq_eq_false_iff_ne.2 (by omega)]
    simp
theorem own_y (y : S24) : rightB { y with f1 := -1 } = false := by
  unfold rightB
  rw [show numB (-1) = false from by decide]
  simp
theorem own_z {y : S24} (h : Tame y) : rightB { y with f0 := 12 } = false ∧ sameB y { y with f0 := 12 } = false := by
  have h0 := h.n0
  refine ⟨?_, ?_⟩
  · unfold rightB
    rw [show kindB 12 = false from by decide]
    simp
  · unfold sameB
    rw [show (y.f0 == 12) = false from beq_eq_false_iff_ne.2 (by omega)]
    simp
theorem asked_nil (y : S24) (h1 : y.f0 ≠ 1) (h2 : y.f0 ≠ 10) : (askedL y).f7 = [] := by
  unfold askedL
  rw [if_neg h1]
  split
  · rfl
  split
  · rfl
  split
  · rfl
  split
  · rfl
  split
  · rfl
  split
  · rfl
  split
  · rfl
  rfl
theorem own_w (y : S24) (x : S32) (h1 : y.f0 ≠ 1) (h2 : y.f0 ≠ 10) : rightB { y with f7 := [x] } = false := by
  have h := asked_nil { y with f7 := [x] } h1 h2
  unfold rightB sameB
  rw [h, show attrEq [] [x] = false from by unfold attrEq; rfl]
  simp
theorem i64_of (n : Int) (h : -1 ≤ n ∧ n ≤ 4000000000) : I64 n := ⟨by omega, by omega⟩
theorem tame_i64 {y : S24} (h : Tame y) : I64 y.f0 ∧ I64 y.f1 ∧ I64 y.f2 ∧ I64 y.f3 ∧ I64 y.f4 ∧ I64 y.f5 := by
  obtain ⟨-, h1, h2, h3, h0, h4, h5, -, -, -⟩ := h
  exact ⟨i64_of _ (by omega), i64_of _ (by omega), i64_of _ (by omega), i64_of _ (by omega), i64_of _ (by omega), i64_of _ (by omega)⟩
theorem short_seg (l : List S32) : ((shortL l).flatMap attrSeg).length ≤ 312 := by
  have h : ∀ m : List S32, ((m.map fun x => (⟨capL x.f0 20, capL x.f1 30⟩ : S32)).flatMap attrSeg).length ≤ 52 * m.length := by
    intro m
    induction m with
    | nil => simp
    | cons x m ih =>
      have a := capL_size x.f0 20
      have b := capL_size x.f1 30
      have a' : (capL x.f0 20).size = (capL x.f0 20).data.size := rfl
      have b' : (capL x.f1 30).size = (capL x.f1 30).data.size := rfl
      simp only [List.map_cons, List.flatMap_cons, List.length_append, List.length_cons]
      unfold attrSeg bts at *
      simp only [List.length_append, List.length_cons, List.length_nil, Array.length_toList] at *
      omega
  have := h (l.take 6)
  have hl : (l.take 6).length ≤ 6 := by rw [List.length_take]; omega
  unfold shortL
  omega
theorem numP_len6 (a b c d e f : Int) (ha : I64 a) (hb : I64 b) (hc : I64 c) (hd : I64 d) (he : I64 e) (hf : I64 f) : (numP [a, b, c, d, e, f]).length ≤ 131 := by
  have h1 := Lib.itoa_length_le a ha.1 ha.2
  have h2 := Lib.itoa_length_le b hb.1 hb.2
  have h3 := Lib.itoa_length_le c hc.1 hc.2
  have h4 := Lib.itoa_length_le d hd.1 hd.2
  have h5 := Lib.itoa_length_le e he.1 he.2
  have h6 := Lib.itoa_length_le f hf.1 hf.2
  simp only [numP, List.flatMap_cons, List.flatMap_nil, List.length_append, List.length_cons, List.length_nil]
  omega
/-- An operation of few words is told in few bytes. -/
theorem text_len (y : S24) (hi : I64 y.f0 ∧ I64 y.f1 ∧ I64 y.f2 ∧ I64 y.f3 ∧ I64 y.f4 ∧ I64 y.f5) (h6 : y.f6.size ≤ 1000) (h7 : y.f7 = [] ∨ ∃ l, y.f7 = shortL l) (h8 : y.f8.size ≤ 1000) : (textL y).length ≤ 100000 := by
  have hn := numP_len6 _ _ _ _ _ _ hi.1 hi.2.1 hi.2.2.1 hi.2.2.2.1 hi.2.2.2.2.1 hi.2.2.2.2.2
  have e6 : y.f6.size = y.f6.data.size := rfl
  have e8 : y.f8.size = y.f8.data.size := rfl
  have h7' : (y.f7.flatMap attrSeg).length ≤ 312 := by
    rcases h7 with h | ⟨l, h⟩
    · rw [h]; simp
    · rw [h]; exact short_seg l
  unfold textL headP bts
  simp only [List.length_append, List.length_cons, List.length_nil, Array.length_toList]
  omega
theorem own_u (y : S24) (t : ByteArray) (ht : t.size = y.f8.size + 1) : (textL { y with f8 := t }).length = (textL y).length + 1 := by
  have e8 : y.f8.size = y.f8.data.size := rfl
  have e9 : t.size = t.data.size := rfl
  unfold textL headP bts
  simp only [List.length_append, List.length_cons, List.length_nil, Array.length_toList]
  omega
set_option maxHeartbeats 4000000 in
set_option maxRecDepth 100000 in
/-- Nothing decodes to nothing. -/
theorem decode_nil (w : World) : Calls Tryd.prog 18 #[.slice none 0 0] w fun e w' => e = .returned (.tuple #[.slice none 0 0, .int .i64 0]) ∧ Below w.heap.size w w' := by
  have b1 := below_alloc (Below.refl w.heap.size w) (.cells #[.slice none 0 0, .bool false] 73)
  have hX := heap_alloc_new w (.cells #[.slice none 0 0, .bool false] 73)
  obtain ⟨w1, hw1⟩ : ∃ w1, w.alloc (.cells #[.slice none 0 0, .bool false] 73) = w1 := ⟨_, rfl⟩
  rw [hw1] at b1 hX
  have HW1 := hide hw1
  have HB := hide b1
  have c0 : w1.cell? ⟨w.heap.size, 0, none⟩ = some (.slice none 0 0) := cell_of_row _ _ 0 _ _ _ hX
  clear hw1 b1 hX
  go_enter Tryd.func18, Tryd.ntmps18
  go_wp2_with fail
  rw [HW1.out]
  go_loopw [5] (fun v wr => v = .slice none 0 0 ∧ Aside0 (wr = w1)) (fun _ _ => 0)
  case atStart => exact ⟨rfl, ⟨rfl⟩⟩
  case round =>
    obtain ⟨rfl, hw⟩ := hrel
    rw [hw.out]
    go_wp2_with fail
    go_ret2
    exact ⟨rfl, HB.out⟩
set_option maxHeartbeats 4000000 in
set_option maxRecDepth 100000 in
theorem known (w : World) (ht : TabOk w) : Calls Tryd.prog 12 #[] w fun e w' => e = .returned (.bool true) ∧ Below w.heap.size w w' := by
  have h11 : textL ⟨11, 0, 0, 0, 0, 0, ⟨#[]⟩, [], ⟨#[]⟩⟩ = [49, 49, 32, 48, 32, 48, 32, 48, 32, 48, 32, 48, 32, 32, 34, 34] := by kernel_rfl
  have h7 : rightB ⟨7, 0, 0, 1, 0, 0, ⟨#[]⟩, [], ⟨#[]⟩⟩ = false := by decide
  have HT := hide (fun (w1 : World) (hb : Below w.heap.size w w1) => text ⟨11, 0, 0, 0, 0, 0, ⟨#[]⟩, [], ⟨#[]⟩⟩ none 0 w1 (Kd.C_nil _ _) ⟨i64_of _ (by decide), i64_of _ (by decide), i64_of _ (by decide), i64_of _ (by decide), i64_of _ (by decide), i64_of _ (by decide)⟩ (by rw [h11]; decide) (ht.below hb))
  rw [h11] at HT
  have HR := hide (fun (w1 : World) => right ⟨7, 0, 0, 1, 0, 0, ⟨#[]⟩, [], ⟨#[]⟩⟩ none 0 w1 (Kd.C_nil _ _) (Nat.le_refl _))
  rw [h7] at HR
  clear h11 h7 ht
  go_enter Tryd.func12, Tryd.ntmps12
  go_wp2_with fail
  refine (decode_nil w).mono ?_
  rintro e w1 ⟨rfl, hb1⟩
  dsimp only
  have HB1 := hide hb1
  clear hb1
  go_wp2_with fail
  refine (HT.out w1 HB1.out).mono ?_
  rintro e w2 ⟨rfl, hb2⟩
  dsimp only
  have HB2 := hide (below_step HB1.out hb2)
  clear hb2
  go_wp2_with fail
  refine (HR.out w2).mono ?_
  rintro e w3 ⟨rfl, hb3⟩
  dsimp only
  have HB3 := hide (below_step HB2.out hb3)
  clear hb3
  go_wp2_with fail
  go_ret
  exact ⟨rfl, HB3.out⟩
end Go.Proofs.YtbljbgjecnmeeaaDoor.OpP
