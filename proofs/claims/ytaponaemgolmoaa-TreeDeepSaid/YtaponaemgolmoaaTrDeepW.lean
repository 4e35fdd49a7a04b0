/- The walk of the law TreeDeep: it is true. -/
import Derived.Test.YtaponaemgolmoaaTrKnown
import Derived.Test.YtaponaemgolmoaaTrCopy
namespace Go.Proofs.Ytaponaemgolmoaa.Tr
open Go.RowKit Go.Proofs.Ytaponaemgolmoaa.PTreeTells Go.Proofs.YtaponaemgolmoaaW.PrintWords Go.Proofs.YtaponaemgolmoaaW.PrintLast
set_option linter.unusedVariables false
set_option linter.unusedSimpArgs false
/-- A text, so deep. -/
def deepT (T : ByteArray) : Nat → S26
  | 0 => ⟨4, 0, ⟨#[]⟩, [], T, []⟩
  | n + 1 => ⟨3, 1, ⟨#[98]⟩, [], ⟨#[]⟩, [deepT T n]⟩
def deepP (T : ByteArray) (n : Nat) : S26 := ⟨3, 1, ⟨#[112]⟩, [], ⟨#[]⟩, [deepT T n]⟩
def deepD (T : ByteArray) (n : Nat) : S26 := ⟨1, 0, ⟨#[]⟩, [], ⟨#[]⟩, [deepP T n]⟩
theorem deep_W (T : ByteArray) : ∀ n, W (deepT T n) = 2 * n + 1
  | 0 => by rw [deepT, W, WK]
  | n + 1 => by rw [deepT, W, WK, WK, deep_W T n]; omega
theorem deep_AL (T : ByteArray) : ∀ n, AL 10 (deepT T n)
  | 0 => by rw [deepT, AL, ALK]; exact ⟨Nat.zero_le _, trivial⟩
  | n + 1 => by rw [deepT, AL, ALK, ALK]; exact ⟨Nat.zero_le _, deep_AL T n, trivial⟩
theorem deep_cnt (T : ByteArray) : ∀ n, cntT (deepT T n) = n + 1
  | 0 => by rw [deepT, cntT, cntK]
  | n + 1 => by rw [deepT, cntT, cntK, cntK, deep_cnt T n]; omega
theorem deep_dep (T : ByteArray) : ∀ n, depT (deepT T n) = n + 1
  | 0 => by rw [deepT, depT, depK]
  | n + 1 => by rw [deepT, depT, depK, depK, deep_dep T n]; omega
theorem deep_txt (T : ByteArray) : ∀ n, txtT (deepT T n) = bts T
  | 0 => by rw [deepT, txtT, txtK, if_pos rfl, List.append_nil]; rfl
  | n + 1 => by rw [deepT, txtT, txtK, txtK, deep_txt T n, if_neg (by decide), List.nil_append, List.append_nil]
theorem deep_kind (T : ByteArray) (n : Nat) : (deepT T n).f0 = 4 ∨ (deepT T n).f0 = 3 := by
  cases n with
  | zero => exact .inl rfl
  | succ n => exact .inr rfl
theorem kids_one (x : S26) (tm : templB x = false) (y : S26) (hx : x.f0 = 3) (h5 : x.f5 = [y]) (hy : y.f0 = 4 ∨ y.f0 = 3) : kidsB x = true := by
  unfold kidsB
  rw [tm, h5, hx]
  rcases hy with h | h <;> (rw [kidsFrom, kidsFrom, h]; rfl)
theorem deep_right (T : ByteArray) (hT : T.toList ≠ []) : ∀ n, allR (deepT T n) = true
  | 0 => by
    rw [allR_eq]
    have h1 : fieldsB (deepT T 0) = true := by
      have h2 : ¬ T.data = #[] := fun h => hT (by rw [ByteArray.toList_eq, h])
      simp [fieldsB, deepT, ByteArray.toList_eq, moreL, h2]
    rw [h1]
    rfl
  | n + 1 => by
    rw [allR_eq]
    have h1 : fieldsB (deepT T (n + 1)) = true := by simp [fieldsB, deepT, ByteArray.toList_eq, moreL]
    have h2 : kidsB (deepT T (n + 1)) = true := kids_one _ (by simp [templB, deepT, ByteArray.toList_eq]) (deepT T n) rfl rfl (deep_kind T n)
    have h3 : allRK (deepT T (n + 1)).f5 = true := by
      show allRK [deepT T n] = true
      rw [allRK, allRK, deep_right T hT n]
      rfl
    rw [h1, h2, h3]
    rfl
theorem deepD_right (T : ByteArray) (hT : T.toList ≠ []) (n : Nat) : rightB (deepD T n) = true := by
  rw [right_all, allR_eq]
  have h2 : kidsB (deepP T n) = true := kids_one _ (by simp [templB, deepP, ByteArray.toList_eq]) (deepT T n) rfl rfl (deep_kind T n)
  have h3 : allR (deepP T n) = true := by
    have h1 : fieldsB (deepP T n) = true := by simp [fieldsB, deepP, ByteArray.toList_eq, moreL]
    rw [allR_eq, h2, h1]
    show (true && (true && allRK [deepT T n])) = true
    rw [allRK, allRK, deep_right T hT n]
    rfl
  have h1 : fieldsB (deepD T n) = true := by simp [fieldsB, deepD, ByteArray.toList_eq]
  have h4 : kidsB (deepD T n) = true := by simp [kidsB, deepD, deepP, kidsFrom, kidOk, templB, ByteArray.toList_eq]
  rw [h1, h4]
  show (true && (true && (true && allRK [deepP T n]))) = true
  rw [allRK, allRK, h3]
  rfl
theorem deep_line (T : ByteArray) (hT : T.size ≤ 10) (n : Nat) : (lineL (deepT T n)).length ≤ 20 := by
  cases n with
  | zero =>
    show ([34] ++ bts T ++ [34]).length ≤ 20
    simp only [List.length_append, bts_size, List.length_cons, List.length_nil]
    omega
  | succ n => exact (by decide : ([60] ++ ([] : List UInt8) ++ [98] ++ ([] : List UInt8) ++ [62]).length ≤ 20)
theorem deep_shw (T : ByteArray) (hT : T.size ≤ 10) : ∀ (n : Nat) (i : List UInt8), (showR (deepT T n) i).length ≤ n * (i.length + 2 * n + 21)
  | 0, i => by rw [deepT, showR, showRK]; exact Nat.zero_le _
  | n + 1, i => by
    have h1 := deep_shw T hT n (i ++ [32, 32])
    have h2 := deep_line T hT n
    rw [deepT, showR, showRK, showRK, List.append_nil]
    simp only [List.length_append, List.length_cons, List.length_nil] at h1 ⊢
    have e1 : n * (i.length + (0 + 1 + 1) + 2 * n + 21) ≤ n * (i.length + 2 * (n + 1) + 21) := Nat.mul_le_mul (Nat.le_refl _) (by omega)
    rw [Nat.add_mul, Nat.one_mul]
    omega
theorem deepD_sm (T : ByteArray) (hT : T.size ≤ 10) (n : Nat) (hn : n ≤ 3000) : Sm (deepD T n) := by
  have h1 := deep_W T n
  have h2 := deep_shw T hT n [32, 32]
  have h3 := deep_line T hT n
  have h4 : n * (([32, 32] : List UInt8).length + 2 * n + 21) ≤ 3000 * 7000 := Nat.mul_le_mul hn (by simp only [List.length_cons, List.length_nil]; omega)
  refine ⟨?_, ?_, ?_, ?_⟩
  · unfold deepD deepP
    rw [W, WK, WK, W, WK, WK]
    omega
  · unfold deepD deepP
    rw [AL, ALK, ALK, AL, ALK, ALK]
    exact ⟨Nat.zero_le _, ⟨Nat.zero_le _, deep_AL T n, trivial⟩, trivial⟩
  · unfold deepD deepP
    rw [txtT, txtK, txtK, txtT, txtK, txtK, deep_txt]
    rw [if_neg (by decide), if_neg (by decide)]
    simp only [List.nil_append, List.append_nil, bts_size]
    omega
  · unfold deepD deepP
    rw [showR, showRK, showRK, showR, showRK, showRK]
    have h5 : (lineL (⟨3, 1, ⟨#[112]⟩, [], ⟨#[]⟩, [deepT T n]⟩ : S26)).length ≤ 20 := (by decide : ([60] ++ ([] : List UInt8) ++ [112] ++ ([] : List UInt8) ++ [62]).length ≤ 20)
    have h6 : (showR (deepT T n) ([] ++ [32, 32] ++ [32, 32])).length ≤ 3000 * 7000 := by
      have := deep_shw T hT n ([] ++ [32, 32] ++ [32, 32])
      have h7 : n * (([] ++ [32, 32] ++ [32, 32] : List UInt8).length + 2 * n + 21) ≤ 3000 * 7000 := Nat.mul_le_mul hn (by simp only [List.length_append, List.length_cons, List.length_nil]; omega)
      omega
    simp only [List.length_append, List.length_cons, List.length_nil, List.nil_append] at h6 ⊢
    omega
theorem deepD_cnt (T : ByteArray) (n : Nat) : cntT (deepD T n) = n + 3 := by
  unfold deepD deepP
  rw [cntT, cntK, cntK, cntT, cntK, cntK, deep_cnt]
  omega
theorem deepD_dep (T : ByteArray) (n : Nat) : depT (deepD T n) = n + 3 := by
  unfold deepD deepP
  rw [depT, depK, depK, depT, depK, depK, deep_dep]
  omega
theorem deepD_txt (T : ByteArray) (n : Nat) : (⟨(txtT (deepD T n)).toArray⟩ : ByteArray) = T := by
  unfold deepD deepP
  rw [txtT, txtK, txtK, txtT, txtK, txtK, deep_txt, if_neg (by decide), if_neg (by decide)]
  simp only [List.nil_append, List.append_nil]
  unfold bts
  rw [Array.toArray_toList]
theorem deepD_ne (T : ByteArray) (n : Nat) : eqT (deepD T n) (deepT T n) = false := by
  rw [eqT_eq]
  have : labL (deepD T n) (deepT T n) = false := by
    unfold labL
    rcases deep_kind T n with h | h <;> (rw [h]; rfl)
  rw [this]
  rfl
/-- One node in a block, with a footprint. -/
theorem one_F {w : World} {ok : Nat → Prop} {g : Nat} {y : S26} {A3 A5 : Option Addr} {c3 c5 : Nat} (h : w.heap[g]? = some (.cells #[.int .i64 y.f0, .int .i64 y.f1, .string y.f2, .slice A3 y.f3.length c3, .string y.f4, .slice A5 y.f5.length c5] 26 (0, 0))) (hg : ok g) (ht : TF w ok (.agg #[.int .i64 y.f0, .int .i64 y.f1, .string y.f2, .slice A3 y.f3.length c3, .string y.f4, .slice A5 y.f5.length c5]) y) : Kd.F k26 w ok (some ⟨g, 0, none⟩) 1 [y] := fun W' hW => by
  obtain ⟨B3, d3, B5, d5, e, l3, g3, l5, g5⟩ := ht W' hW
  injection e with e
  injection e with e
  simp only [List.cons.injEq, Value.slice.injEq] at e
  obtain ⟨_, _, _, ⟨rfl, _, rfl⟩, _, ⟨rfl, _, rfl⟩, _⟩ := e
  exact one_row ((hW g hg (blk_lt h)).trans h) l3 g3 l5 g5
/-- At the loop's head: the tree so far, in its box. -/
def DeepRel (w : World) (X5 : Nat) (T : ByteArray) (k : Nat) (wr : World) : Prop := ∃ (A3 : Option Addr) (c3 : Nat) (A5 : Option Addr) (c5 : Nat), wr.heap[X5]? = some (.cells #[.int .i64 (deepT T k).f0, .int .i64 (deepT T k).f1, .string (deepT T k).f2, .slice A3 (deepT T k).f3.length c3, .string (deepT T k).f4, .slice A5 (deepT T k).f5.length c5] 26 (0, 0)) ∧ TF wr (fun j => X5 < j) (.agg #[.int .i64 (deepT T k).f0, .int .i64 (deepT T k).f1, .string (deepT T k).f2, .slice A3 (deepT T k).f3.length c3, .string (deepT T k).f4, .slice A5 (deepT T k).f5.length c5]) (deepT T k) ∧ Below w.heap.size w wr
/-- 'Copy', its tree opened. -/
theorem copyV (t : S26) (v : Value) (w : World) (ok : Nat → Prop) (h : TF w ok v t) (s : Sm t) : Calls Try.prog 14 #[v] w fun e w' => ∃ (A3 : Option Addr) (c3 : Nat) (A5 : Option Addr) (c5 : Nat), e = .returned (.agg #[.int .i64 t.f0, .int .i64 t.f1, .string t.f2, .slice A3 t.f3.length c3, .string t.f4, .slice A5 t.f5.length c5]) ∧ TV w' (.agg #[.int .i64 t.f0, .int .i64 t.f1, .string t.f2, .slice A3 t.f3.length c3, .string t.f4, .slice A5 t.f5.length c5]) t ∧ Below w.heap.size w w' :=
  (copy t v w ok h (by have := s.w; omega) (AL_mono (by omega) t s.al)).mono fun e w' ⟨v', he, ht, hb⟩ => by
    obtain ⟨A3, c3, A5, c5, rfl, -⟩ := ht.open_
    exact ⟨A3, c3, A5, c5, he, ht.now, hb⟩
set_option maxHeartbeats 20000000 in
set_option maxRecDepth 100000 in
theorem treeDeep (n0 : Int) (s : ByteArray) (w : World) : Calls Try.prog 7 #[.int .i64 n0, .string s] w (RetV w (.bool true)) := by
  obtain ⟨u, hu, -, hfu⟩ := within_u n0 3000 (by omega)
  rw [show ((3000 : Nat) : Int) = 3000 from rfl] at hfu
  have hhs := (head_some s).2.1
  obtain ⟨hd, hhd⟩ : ∃ h, headL s = h := ⟨_, rfl⟩
  have HHD := hide hhd
  rw [hhd] at hhs
  obtain ⟨T, hT⟩ : ∃ T, (⟨#[116]⟩ : ByteArray) ++ hd = T := ⟨_, rfl⟩
  have hTs : T.size ≤ 10 := by rw [← hT, ByteArray.size_append]; show 1 + _ ≤ 10; omega
  have hTn : T.toList ≠ [] := by
    rw [← hT]
    intro h
    have h2 := congrArg List.length h
    rw [ByteArray.toList_eq, ByteArray.data_append, Array.toList_append] at h2
    simp at h2
  have HTT := hide hT
  have hz : ¬ 9223372036854775807 < 1 + hd.size := by omega
  have HFU := hide hfu
  clear hfu hhd
  go_enter Try.func7, Try.ntmps7
  go_upto_region 2 with (go_at_call 17; refine (arbourbook_Within.calls _ _ _ _ _ HFU.out).mono ?_; rintro e w' ⟨rfl, ⟨nq, rfl⟩⟩)
  have b0 := pw_below_drewN (Below.refl w.heap.size w) nq
  generalize w.drewN nq = wa at b0 ⊢
  go_upto_region 3 with (go_at_call 18; (with_reducible refine (arbourkeep_Head.calls s 9 (headL s) _ (head_some s).1).mono ?_); rintro e wb ⟨rfl, hdr⟩; have b1 := below_step b0 (Drawn0.below hdr); clear hdr; rw [HHD.out])
  (try rw [hT])
  clear hT
  have hX := heap_alloc_new wb (.cells #[.int .i64 4, .int .i64 0, .string ⟨#[]⟩, .slice none 0 0, .string T, .slice none 0 0] 26)
  have ba0 := below_alloc (Below.refl wb.heap.size wb) (.cells #[.int .i64 4, .int .i64 0, .string ⟨#[]⟩, .slice none 0 0, .string T, .slice none 0 0] 26)
  obtain ⟨w1, hw1⟩ : ∃ z, wb.alloc (.cells #[.int .i64 4, .int .i64 0, .string ⟨#[]⟩, .slice none 0 0, .string T, .slice none 0 0] 26) = z := ⟨_, rfl⟩
  rw [hw1] at hX ba0 ⊢
  have HB1 := hide (below_step b1 ba0)
  have hxs : w.heap.size ≤ wb.heap.size := b1.size
  obtain ⟨X5, hX5⟩ : ∃ X, wb.heap.size = X := ⟨_, rfl⟩
  rw [hX5] at hX hxs ⊢
  have HXB := hide hxs
  have HX1 := hide hX
  clear hX ba0 hw1 b1 b0 hxs hX5
  go_wp2_with fail
  go_loopw [6] (fun i wr => ∃ k : Nat, k ≤ u ∧ i = .int .i64 (k : Int) ∧ Aside0 (DeepRel w X5 T k wr)) (fun i _ => u - (intOf i).toNat)
  case atStart => exact ⟨0, Nat.zero_le _, rfl, ⟨none, 0, none, 0, HX1.out, fun _ _ => ⟨none, 0, none, 0, rfl, Nat.le_refl _, Kd.C_nil _ _, Nat.le_refl _, Kd.C_nil _ _⟩, HB1.out⟩⟩
  case round =>
    clear HX1 HB1
    obtain ⟨k, hk, rfl, hrel⟩ := hrel
    obtain ⟨A3, c3, A5, c5, hXA, hTF, hbr⟩ := hrel.out
    clear hrel
    have HBR := hide hbr
    by_cases hlt : k < u
    · have hnext : deepT T (k + 1) = ⟨3, 1, ⟨#[98]⟩, [], ⟨#[]⟩, [deepT T k]⟩ := rfl
      obtain ⟨⟨y0, y1, y2, y3, y4, y5⟩, hy⟩ : ∃ y, deepT T k = y := ⟨_, rfl⟩
      rw [hy] at hXA hTF hnext
      dsimp only at hXA hTF
      have a0 := cell_of_row _ _ 0 _ _ _ hXA
      have a1 := cell_of_row _ _ 1 _ _ _ hXA
      have a2 := cell_of_row _ _ 2 _ _ _ hXA
      have a3 := cell_of_row _ _ 3 _ _ _ hXA
      have a4 := cell_of_row _ _ 4 _ _ _ hXA
      have a5 := cell_of_row _ _ 5 _ _ _ hXA
      have hn := heap_alloc_new wr (.cells #[.int .i64 y0, .int .i64 y1, .string y2, .slice A3 y3.length c3, .string y4, .slice A5 y5.length c5] 26)
      have ba := below_alloc (Below.refl wr.heap.size wr) (.cells #[.int .i64 y0, .int .i64 y1, .string y2, .slice A3 y3.length c3, .string y4, .slice A5 y5.length c5] 26)
      have hgt : X5 < wr.heap.size := blk_lt hXA
      have hXA2 := (ba.block _ hgt).trans hXA
      have HROW := hide (one_F (y := ⟨y0, y1, y2, y3, y4, y5⟩) (ok := fun j => X5 < j) hn hgt (hTF.below ba))
      have f0 := blk_frozen hXA2 0
      have f1 := blk_frozen hXA2 1
      have f2 := blk_frozen hXA2 2
      have f3 := blk_frozen hXA2 3
      have f4 := blk_frozen hXA2 4
      have f5 := blk_frozen hXA2 5
      have c0 := cell_of_row _ _ 0 _ _ _ hXA2
      have c1 := cell_of_row _ _ 1 _ _ _ hXA2
      have c2 := cell_of_row _ _ 2 _ _ _ hXA2
      have c3_ := cell_of_row _ _ 3 _ _ _ hXA2
      have c4 := cell_of_row _ _ 4 _ _ _ hXA2
      have c5_ := cell_of_row _ _ 5 _ _ _ hXA2
      have HXA := hide hXA2
      have HNX := hide hnext
      have hk1 : (k : Int) < u := by omega
      have HBA := hide ba
      clear hn hXA2 hXA hTF hy hnext hbr hgt ba
      go_wp2_with fail
      go_roundw
      case rel =>
        have ba := HBA.out
        refine ⟨k + 1, by omega, by go_num, ⟨none, 0, some ⟨wr.heap.size, 0, none⟩, 1, ?_, ?_, ?_⟩⟩
        · rw [HNX.out]
          exact blk_set (blk_set (blk_set (blk_set (blk_set (blk_set HXA.out 0 (.int .i64 3)) 1 (.int .i64 1)) 2 (.string ⟨#[98]⟩)) 3 (.slice none 0 0)) 4 (.string ⟨#[]⟩)) 5 (.slice (some ⟨wr.heap.size, 0, none⟩) 1 1)
        · rw [HNX.out]
          exact (TF.mk (⟨3, 1, ⟨#[98]⟩, [], ⟨#[]⟩, [⟨y0, y1, y2, y3, y4, y5⟩]⟩ : S26) (Nat.le_refl _) (fun _ _ => Kd.C_nil _ _) (Nat.le_refl _) HROW.out).step (fun j hj _ => set6_far (g := X5) (a0 := 0) (a1 := 1) (a2 := 2) (a3 := 3) (a4 := 4) (a5 := 5) (v0 := (.int .i64 3)) (v1 := (.int .i64 1)) (v2 := (.string ⟨#[98]⟩)) (v3 := (.slice none 0 0)) (v4 := (.string ⟨#[]⟩)) (v5 := (.slice (some ⟨wr.heap.size, 0, none⟩) 1 1)) j (by have := hj; omega))
        · exact (((((((below_step HBR.out ba).setCell (p := ⟨X5, 0, none⟩) HXB.out (.int .i64 3)).setCell (p := ⟨X5, 1, none⟩) HXB.out (.int .i64 1)).setCell (p := ⟨X5, 2, none⟩) HXB.out (.string ⟨#[98]⟩)).setCell (p := ⟨X5, 3, none⟩) HXB.out (.slice none 0 0)).setCell (p := ⟨X5, 4, none⟩) HXB.out (.string ⟨#[]⟩)).setCell (p := ⟨X5, 5, none⟩) HXB.out (.slice (some ⟨wr.heap.size, 0, none⟩) 1 1))
      case measure => simp only [intOf]; omega
    · have hke : k = u := by omega
      subst hke
      have hsm := deepD_sm T hTs k hu
      have hcnt := deepD_cnt T k
      have hdep := deepD_dep T k
      have htxt := deepD_txt T k
      have hrgt := deepD_right T hTn k
      have hne := deepD_ne T k
      have hP : deepP T k = ⟨3, 1, ⟨#[112]⟩, [], ⟨#[]⟩, [deepT T k]⟩ := rfl
      have hD : deepD T k = ⟨1, 0, ⟨#[]⟩, [], ⟨#[]⟩, [deepP T k]⟩ := rfl
      obtain ⟨⟨y0, y1, y2, y3, y4, y5⟩, hy⟩ : ∃ y, deepT T k = y := ⟨_, rfl⟩
      rw [hy] at hXA hTF hP hne
      dsimp only at hXA hTF
      have a0 := cell_of_row _ _ 0 _ _ _ hXA
      have a1 := cell_of_row _ _ 1 _ _ _ hXA
      have a2 := cell_of_row _ _ 2 _ _ _ hXA
      have a3 := cell_of_row _ _ 3 _ _ _ hXA
      have a4 := cell_of_row _ _ 4 _ _ _ hXA
      have a5 := cell_of_row _ _ 5 _ _ _ hXA
      have hk1 : ¬ (k : Int) < k := by omega
      clear hlt
      go_upto_region 8 with fail
      have h1 := heap_alloc_new wr (.cells #[.int .i64 y0, .int .i64 y1, .string y2, .slice A3 y3.length c3, .string y4, .slice A5 y5.length c5] 26)
      have b1 := below_alloc (Below.refl wr.heap.size wr) (.cells #[.int .i64 y0, .int .i64 y1, .string y2, .slice A3 y3.length c3, .string y4, .slice A5 y5.length c5] 26)
      have s1 : (wr.alloc (.cells #[.int .i64 y0, .int .i64 y1, .string y2, .slice A3 y3.length c3, .string y4, .slice A5 y5.length c5] 26)).heap.size = wr.heap.size + 1 := by simp
      generalize wr.alloc (.cells #[.int .i64 y0, .int .i64 y1, .string y2, .slice A3 y3.length c3, .string y4, .slice A5 y5.length c5] 26) = v1 at h1 b1 s1 ⊢
      have h2 := heap_alloc_new v1 (.cells #[.int .i64 3, .int .i64 1, .string ⟨#[112]⟩, .slice none 0 0, .string ⟨#[]⟩, .slice (some ⟨wr.heap.size, 0, none⟩) 1 1] 26)
      have b2 := below_alloc (Below.refl v1.heap.size v1) (.cells #[.int .i64 3, .int .i64 1, .string ⟨#[112]⟩, .slice none 0 0, .string ⟨#[]⟩, .slice (some ⟨wr.heap.size, 0, none⟩) 1 1] 26)
      have s2 : (v1.alloc (.cells #[.int .i64 3, .int .i64 1, .string ⟨#[112]⟩, .slice none 0 0, .string ⟨#[]⟩, .slice (some ⟨wr.heap.size, 0, none⟩) 1 1] 26)).heap.size = v1.heap.size + 1 := by simp
      generalize v1.alloc (.cells #[.int .i64 3, .int .i64 1, .string ⟨#[112]⟩, .slice none 0 0, .string ⟨#[]⟩, .slice (some ⟨wr.heap.size, 0, none⟩) 1 1] 26) = v2 at h2 b2 s2 ⊢
      have h3 := heap_alloc_new v2 (.cells #[.int .i64 1, .int .i64 0, .string ⟨#[]⟩, .slice none 0 0, .string ⟨#[]⟩, .slice (some ⟨wr.heap.size + 1, 0, none⟩) 1 1] 26)
      have b3 := below_alloc (Below.refl v2.heap.size v2) (.cells #[.int .i64 1, .int .i64 0, .string ⟨#[]⟩, .slice none 0 0, .string ⟨#[]⟩, .slice (some ⟨wr.heap.size + 1, 0, none⟩) 1 1] 26)
      generalize v2.alloc (.cells #[.int .i64 1, .int .i64 0, .string ⟨#[]⟩, .slice none 0 0, .string ⟨#[]⟩, .slice (some ⟨wr.heap.size + 1, 0, none⟩) 1 1] 26) = w3 at h3 b3 ⊢
      rw [s1] at h2
      rw [s2, s1] at h3
      have tv := hTF.now
      obtain ⟨B3, d3, B5, d5, er, l3, g3, l5, g5⟩ := tv.below b1
      injection er with er
      injection er with er
      simp only [List.cons.injEq, Value.slice.injEq] at er
      obtain ⟨_, _, _, ⟨rfl, _, rfl⟩, _, ⟨rfl, _, rfl⟩, _⟩ := er
      have k1 : k26.C v1 (some ⟨wr.heap.size, 0, none⟩) 1 [⟨y0, y1, y2, y3, y4, y5⟩] := one_row (y := ⟨y0, y1, y2, y3, y4, y5⟩) h1 l3 g3 l5 g5
      have k2 : k26.C v2 (some ⟨wr.heap.size + 1, 0, none⟩) 1 [deepP T k] := by
        rw [hP]
        exact one_row (y := ⟨3, 1, ⟨#[112]⟩, [], ⟨#[]⟩, [⟨y0, y1, y2, y3, y4, y5⟩]⟩) h2 (Nat.le_refl _) (Kd.C_nil _ _) (Nat.le_refl _) (Kd.C_below k1 b2)
      have b13 := below_step (below_step b1 b2) b3
      have hgt : X5 < wr.heap.size := blk_lt hXA
      have r1 := one_F (y := ⟨y0, y1, y2, y3, y4, y5⟩) (ok := fun j => X5 < j) h1 hgt (hTF.below b1)
      have r2 := one_F (y := ⟨3, 1, ⟨#[112]⟩, [], ⟨#[]⟩, [⟨y0, y1, y2, y3, y4, y5⟩]⟩) (ok := fun j => X5 < j) h2 (by show X5 < _; omega) ((TF.mk (A3 := none) (c3 := 0) (A5 := some ⟨wr.heap.size, 0, none⟩) (c5 := 1) (⟨3, 1, ⟨#[112]⟩, [], ⟨#[]⟩, [⟨y0, y1, y2, y3, y4, y5⟩]⟩ : S26) (Nat.le_refl _) (fun _ _ => Kd.C_nil _ _) (Nat.le_refl _) r1).below b2)
      have tfd : TF w3 (fun j => X5 < j) (.agg #[.int .i64 1, .int .i64 0, .string ⟨#[]⟩, .slice none 0 0, .string ⟨#[]⟩, .slice (some ⟨wr.heap.size + 1, 0, none⟩) 1 1]) (deepD T k) := by
        rw [hD, hP]
        exact (TF.mk (A3 := none) (c3 := 0) (A5 := some ⟨wr.heap.size + 1, 0, none⟩) (c5 := 1) (⟨1, 0, ⟨#[]⟩, [], ⟨#[]⟩, [⟨3, 1, ⟨#[112]⟩, [], ⟨#[]⟩, [⟨y0, y1, y2, y3, y4, y5⟩]⟩]⟩ : S26) (Nat.le_refl _) (fun _ _ => Kd.C_nil _ _) (Nat.le_refl _) r2).below b3
      have HB3 := hide (below_step HBR.out b13)
      have tvd : ∀ W, Below w3.heap.size w3 W → TV W (.agg #[.int .i64 1, .int .i64 0, .string ⟨#[]⟩, .slice none 0 0, .string ⟨#[]⟩, .slice (some ⟨wr.heap.size + 1, 0, none⟩) 1 1]) (deepD T k) := fun W hW => ⟨none, 0, some ⟨wr.heap.size + 1, 0, none⟩, 1, rfl, Nat.le_refl _, Kd.C_nil _ _, Nat.le_refl _, Kd.C_below (Kd.C_below k2 b3) hW⟩
      have tvy : ∀ W, Below w3.heap.size w3 W → TV W (.agg #[.int .i64 y0, .int .i64 y1, .string y2, .slice A3 y3.length c3, .string y4, .slice A5 y5.length c5]) ⟨y0, y1, y2, y3, y4, y5⟩ := fun W hW => (tv.below b13).below hW
      have HC1 := hide (fun W hW => c_count (deepD T k) _ W (tvd W hW) hsm)
      have HD1 := hide (fun W hW => c_depth (deepD T k) _ W (tvd W hW) hsm)
      have HT1 := hide (fun W hW => c_text (deepD T k) _ W (tvd W hW) hsm)
      have HR1 := hide (fun W hW => c_right (deepD T k) _ W (tvd W hW) hsm)
      have HCP := hide (fun W hW => copyV (deepD T k) _ W _ (tfd.below hW) hsm)
      have HSC := hide (fun W (hW : Below w3.heap.size w3 W) (v : Value) (hv : TV W v (deepD T k)) => c_same (deepD T k) (deepD T k) _ v W (tvd W hW) hv hsm)
      have HS2 := hide (fun W hW => c_same (deepD T k) ⟨y0, y1, y2, y3, y4, y5⟩ _ _ W (tvd W hW) (tvy W hW) hsm)
      rw [hcnt, show ((k + 3 : Nat) : Int) = (k : Int) + 3 from by omega] at HC1
      rw [hdep, show ((k + 3 : Nat) : Int) = (k : Int) + 3 from by omega] at HD1
      rw [htxt] at HT1
      rw [hrgt] at HR1
      rw [eq_refl] at HSC
      rw [hne] at HS2
      have hXA3 := (b13.block _ (blk_lt hXA)).trans hXA
      obtain ⟨G2, hG2⟩ : ∃ G, wr.heap.size + 1 = G := ⟨_, rfl⟩
      rw [hG2] at HC1 HD1 HT1 HR1 HCP HSC HS2 h3 ⊢
      obtain ⟨X7, hX7⟩ : ∃ G, G2 + 1 = G := ⟨_, rfl⟩
      rw [hX7] at h3 ⊢
      have HSS := hide (fun (W : World) (h : Below w3.heap.size w3 W) => (⟨cellW (cell_of_row _ _ 0 _ _ _ h3) h, cellW (cell_of_row _ _ 1 _ _ _ h3) h, cellW (cell_of_row _ _ 2 _ _ _ h3) h, cellW (cell_of_row _ _ 3 _ _ _ h3) h, cellW (cell_of_row _ _ 4 _ _ _ h3) h, cellW (cell_of_row _ _ 5 _ _ _ h3) h, cellW (cell_of_row _ _ 0 _ _ _ hXA3) h, cellW (cell_of_row _ _ 1 _ _ _ hXA3) h, cellW (cell_of_row _ _ 2 _ _ _ hXA3) h, cellW (cell_of_row _ _ 3 _ _ _ hXA3) h, cellW (cell_of_row _ _ 4 _ _ _ hXA3) h, cellW (cell_of_row _ _ 5 _ _ _ hXA3) h⟩ : W.cell? ⟨X7, 0, none⟩ = some (.int .i64 1) ∧ W.cell? ⟨X7, 1, none⟩ = some (.int .i64 0) ∧ W.cell? ⟨X7, 2, none⟩ = some (.string ⟨#[]⟩) ∧ W.cell? ⟨X7, 3, none⟩ = some (.slice none 0 0) ∧ W.cell? ⟨X7, 4, none⟩ = some (.string ⟨#[]⟩) ∧ W.cell? ⟨X7, 5, none⟩ = some (.slice (some ⟨G2, 0, none⟩) 1 1) ∧ W.cell? ⟨X5, 0, none⟩ = some (.int .i64 y0) ∧ W.cell? ⟨X5, 1, none⟩ = some (.int .i64 y1) ∧ W.cell? ⟨X5, 2, none⟩ = some (.string y2) ∧ W.cell? ⟨X5, 3, none⟩ = some (.slice A3 y3.length c3) ∧ W.cell? ⟨X5, 4, none⟩ = some (.string y4) ∧ W.cell? ⟨X5, 5, none⟩ = some (.slice A5 y5.length c5)))
      have kw : IntKind.i64.wrap ((k : Int) + 3) = (k : Int) + 3 := IntWalk.i64_in _ (by omega)
      have hT := HTT.out
      clear hsm hcnt hdep htxt hrgt hne hP hD hy a0 a1 a2 a3 a4 a5 h1 b1 s1 h2 b2 s2 h3 b3 k1 k2 b13 r1 r2 tfd hgt tvd tvy tv hXA hXA3 hTF l3 g3 l5 g5 hG2 hX7 hbr hTn hTs
      refine wp_region_held_drew (S := fun W => W.cell? ⟨X7, 0, none⟩ = some (.int .i64 1) ∧ W.cell? ⟨X7, 1, none⟩ = some (.int .i64 0) ∧ W.cell? ⟨X7, 2, none⟩ = some (.string ⟨#[]⟩) ∧ W.cell? ⟨X7, 3, none⟩ = some (.slice none 0 0) ∧ W.cell? ⟨X7, 4, none⟩ = some (.string ⟨#[]⟩) ∧ W.cell? ⟨X7, 5, none⟩ = some (.slice (some ⟨G2, 0, none⟩) 1 1) ∧ W.cell? ⟨X5, 0, none⟩ = some (.int .i64 y0) ∧ W.cell? ⟨X5, 1, none⟩ = some (.int .i64 y1) ∧ W.cell? ⟨X5, 2, none⟩ = some (.string y2) ∧ W.cell? ⟨X5, 3, none⟩ = some (.slice A3 y3.length c3) ∧ W.cell? ⟨X5, 4, none⟩ = some (.string y4) ∧ W.cell? ⟨X5, 5, none⟩ = some (.slice A5 y5.length c5)) (by kernel_rfl) (HSS.out _ (Below.drew (Below.refl _ _))) (fun hHeld => ?_)
      have b0 := Below.drew (Below.refl w3.heap.size w3)
      generalize w3.drew = wd at b0 hHeld ⊢
      refine wpAnyH_take (i := 0) (oi := ?o0x1) (v := ?v0x1) ?ho0x1 (by kernel_rfl) (by kernel_rfl) (by kernel_rfl) ?hQ0x1 (Or.inl ⟨?hw0x1, ?hy0x1⟩) (by assumption) ?_
      case ho0x1 => (simp only [List.getElem?_toArray, List.getElem?_cons_succ, List.getElem?_cons_zero]; try rfl)
      case hQ0x1 => exact fun _ _ _ h => h
      case hw0x1 => rfl
      case hy0x1 => (intro w hSw; (try dsimp only at hSw); go_simp; (first | done | (with_reducible rfl)))
      (try simp only [Act.put, List.setIfInBounds_toArray, List.set_cons_zero, List.set_cons_succ])
      refine wpAnyH_take (i := 2) (oi := ?o2x2) (v := ?v2x2) ?ho2x2 (by kernel_rfl) (by kernel_rfl) (by kernel_rfl) ?hQ2x2 (Or.inl ⟨?hw2x2, ?hy2x2⟩) (by assumption) ?_
      case ho2x2 => (simp only [List.getElem?_toArray, List.getElem?_cons_succ, List.getElem?_cons_zero]; try rfl)
      case hQ2x2 => exact fun _ _ _ h => h
      case hw2x2 => rfl
      case hy2x2 => (intro w hSw; (try dsimp only at hSw); go_simp; (first | done | (with_reducible rfl)))
      (try simp only [Act.put, List.setIfInBounds_toArray, List.set_cons_zero, List.set_cons_succ])
      refine wpAnyH_take (i := 3) (oi := ?o3x3) (v := ?v3x3) ?ho3x3 (by kernel_rfl) (by kernel_rfl) (by kernel_rfl) ?hQ3x3 (Or.inl ⟨?hw3x3, ?hy3x3⟩) (by assumption) ?_
      case ho3x3 => (simp only [List.getElem?_toArray, List.getElem?_cons_succ, List.getElem?_cons_zero]; try rfl)
      case hQ3x3 => exact fun _ _ _ h => h
      case hw3x3 => rfl
      case hy3x3 => (intro w hSw; (try dsimp only at hSw); go_simp; (first | done | (with_reducible rfl)))
      (try simp only [Act.put, List.setIfInBounds_toArray, List.set_cons_zero, List.set_cons_succ])
      refine wpAnyH_ready (rs := [1]) (by kernel_rfl) (by simp) ?_
      refine (AllReadyH.cons (i := 1) (o := ?o1y4) ?ho1y4 (fun K hK => ?_) AllReadyH.nil)
      case ho1y4 => (simp only [List.getElem?_toArray, List.getElem?_cons_succ, List.getElem?_cons_zero]; try rfl)
      go_simp
      go_at_call 11
      (with_reducible refine (HC1.out _ b0).mono ?_)
      rintro e wq4 ⟨rfl, bs4⟩
      have bq4 := below_step b0 bs4
      clear bs4
      refine hK.out _ _ (HSS.out _ bq4) (fun _ => ?_)
      clear hK K
      (try simp only [Act.put, List.setIfInBounds_toArray, List.set_cons_zero, List.set_cons_succ])
      refine wpAnyH_take (i := 4) (oi := ?o4x5) (v := ?v4x5) ?ho4x5 (by kernel_rfl) (by kernel_rfl) (by kernel_rfl) ?hQ4x5 (Or.inl ⟨?hw4x5, ?hy4x5⟩) (by assumption) ?_
      case ho4x5 => (simp only [List.getElem?_toArray, List.getElem?_cons_succ, List.getElem?_cons_zero]; try rfl)
      case hQ4x5 => exact fun _ _ _ h => h
      case hw4x5 => rfl
      case hy4x5 => (intro w hSw; (try dsimp only at hSw); go_simp; (first | done | (with_reducible rfl)))
      (try simp only [Act.put, List.setIfInBounds_toArray, List.set_cons_zero, List.set_cons_succ])
      refine wpAnyH_take (i := 5) (oi := ?o5x6) (v := ?v5x6) ?ho5x6 (by kernel_rfl) (by kernel_rfl) (by kernel_rfl) ?hQ5x6 (Or.inl ⟨?hw5x6, ?hy5x6⟩) (by assumption) ?_
      case ho5x6 => (simp only [List.getElem?_toArray, List.getElem?_cons_succ, List.getElem?_cons_zero]; try rfl)
      case hQ5x6 => exact fun _ _ _ h => h
      case hw5x6 => rfl
      case hy5x6 => (intro w hSw; (try dsimp only at hSw); go_simp; (first | done | (with_reducible rfl)))
      (try simp only [Act.put, List.setIfInBounds_toArray, List.set_cons_zero, List.set_cons_succ])
      refine wpAnyH_take (i := 6) (oi := ?o6x7) (v := ?v6x7) ?ho6x7 (by kernel_rfl) (by kernel_rfl) (by kernel_rfl) ?hQ6x7 (Or.inl ⟨?hw6x7, ?hy6x7⟩) (by assumption) ?_
      case ho6x7 => (simp only [List.getElem?_toArray, List.getElem?_cons_succ, List.getElem?_cons_zero]; try rfl)
      case hQ6x7 => exact fun _ _ _ h => h
      case hw6x7 => rfl
      case hy6x7 => (intro w hSw; (try dsimp only at hSw); go_simp; (first | done | (with_reducible rfl)))
      (try simp only [Act.put, List.setIfInBounds_toArray, List.set_cons_zero, List.set_cons_succ])
      refine wpAnyH_take (i := 8) (oi := ?o8x8) (v := ?v8x8) ?ho8x8 (by kernel_rfl) (by kernel_rfl) (by kernel_rfl) ?hQ8x8 (Or.inl ⟨?hw8x8, ?hy8x8⟩) (by assumption) ?_
      case ho8x8 => (simp only [List.getElem?_toArray, List.getElem?_cons_succ, List.getElem?_cons_zero]; try rfl)
      case hQ8x8 => exact fun _ _ _ h => h
      case hw8x8 => rfl
      case hy8x8 => (intro w hSw; (try dsimp only at hSw); go_simp; (first | done | (with_reducible rfl)))
      (try simp only [Act.put, List.setIfInBounds_toArray, List.set_cons_zero, List.set_cons_succ])
      refine wpAnyH_take (i := 9) (oi := ?o9x9) (v := ?v9x9) ?ho9x9 (by kernel_rfl) (by kernel_rfl) (by kernel_rfl) ?hQ9x9 (Or.inl ⟨?hw9x9, ?hy9x9⟩) (by assumption) ?_
      case ho9x9 => (simp only [List.getElem?_toArray, List.getElem?_cons_succ, List.getElem?_cons_zero]; try rfl)
      case hQ9x9 => exact fun _ _ _ h => h
      case hw9x9 => rfl
      case hy9x9 => (intro w hSw; (try dsimp only at hSw); go_simp; (first | done | (with_reducible rfl)))
      (try simp only [Act.put, List.setIfInBounds_toArray, List.set_cons_zero, List.set_cons_succ])
      refine wpAnyH_ready (rs := [7]) (by kernel_rfl) (by simp) ?_
      refine (AllReadyH.cons (i := 7) (o := ?o7y10) ?ho7y10 (fun K hK => ?_) AllReadyH.nil)
      case ho7y10 => (simp only [List.getElem?_toArray, List.getElem?_cons_succ, List.getElem?_cons_zero]; try rfl)
      go_simp
      go_at_call 19
      (with_reducible refine (HD1.out _ bq4).mono ?_)
      rintro e wq10 ⟨rfl, bs10⟩
      have bq10 := below_step bq4 bs10
      clear bs10
      refine hK.out _ _ (HSS.out _ bq10) (fun _ => ?_)
      clear hK K
      (try simp only [Act.put, List.setIfInBounds_toArray, List.set_cons_zero, List.set_cons_succ])
      refine wpAnyH_take (i := 10) (oi := ?o10x11) (v := ?v10x11) ?ho10x11 (by kernel_rfl) (by kernel_rfl) (by kernel_rfl) ?hQ10x11 (Or.inl ⟨?hw10x11, ?hy10x11⟩) (by assumption) ?_
      case ho10x11 => (simp only [List.getElem?_toArray, List.getElem?_cons_succ, List.getElem?_cons_zero]; try rfl)
      case hQ10x11 => exact fun _ _ _ h => h
      case hw10x11 => rfl
      case hy10x11 => (intro w hSw; (try dsimp only at hSw); go_simp; (first | done | (with_reducible rfl)))
      (try simp only [Act.put, List.setIfInBounds_toArray, List.set_cons_zero, List.set_cons_succ])
      refine wpAnyH_take (i := 11) (oi := ?o11x12) (v := ?v11x12) ?ho11x12 (by kernel_rfl) (by kernel_rfl) (by kernel_rfl) ?hQ11x12 (Or.inl ⟨?hw11x12, ?hy11x12⟩) (by assumption) ?_
      case ho11x12 => (simp only [List.getElem?_toArray, List.getElem?_cons_succ, List.getElem?_cons_zero]; try rfl)
      case hQ11x12 => exact fun _ _ _ h => h
      case hw11x12 => rfl
      case hy11x12 => (intro w hSw; (try dsimp only at hSw); go_simp; (first | done | (with_reducible rfl)))
      (try simp only [Act.put, List.setIfInBounds_toArray, List.set_cons_zero, List.set_cons_succ])
      refine wpAnyH_take (i := 12) (oi := ?o12x13) (v := ?v12x13) ?ho12x13 (by kernel_rfl) (by kernel_rfl) (by kernel_rfl) ?hQ12x13 (Or.inl ⟨?hw12x13, ?hy12x13⟩) (by assumption) ?_
      case ho12x13 => (simp only [List.getElem?_toArray, List.getElem?_cons_succ, List.getElem?_cons_zero]; try rfl)
      case hQ12x13 => exact fun _ _ _ h => h
      case hw12x13 => rfl
      case hy12x13 => (intro w hSw; (try dsimp only at hSw); go_simp; (first | done | (with_reducible rfl)))
      (try simp only [Act.put, List.setIfInBounds_toArray, List.set_cons_zero, List.set_cons_succ])
      refine wpAnyH_take (i := 13) (oi := ?o13x14) (v := ?v13x14) ?ho13x14 (by kernel_rfl) (by kernel_rfl) (by kernel_rfl) ?hQ13x14 (Or.inl ⟨?hw13x14, ?hy13x14⟩) (by assumption) ?_
      case ho13x14 => (simp only [List.getElem?_toArray, List.getElem?_cons_succ, List.getElem?_cons_zero]; try rfl)
      case hQ13x14 => exact fun _ _ _ h => h
      case hw13x14 => rfl
      case hy13x14 => (intro w hSw; (try dsimp only at hSw); go_simp; (first | done | (with_reducible rfl)))
      (try simp only [Act.put, List.setIfInBounds_toArray, List.set_cons_zero, List.set_cons_succ])
      refine wpAnyH_take (i := 15) (oi := ?o15x15) (v := ?v15x15) ?ho15x15 (by kernel_rfl) (by kernel_rfl) (by kernel_rfl) ?hQ15x15 (Or.inl ⟨?hw15x15, ?hy15x15⟩) (by assumption) ?_
      case ho15x15 => (simp only [List.getElem?_toArray, List.getElem?_cons_succ, List.getElem?_cons_zero]; try rfl)
      case hQ15x15 => exact fun _ _ _ h => h
      case hw15x15 => rfl
      case hy15x15 => (intro w hSw; (try dsimp only at hSw); go_simp; (first | done | (with_reducible rfl)))
      (try simp only [Act.put, List.setIfInBounds_toArray, List.set_cons_zero, List.set_cons_succ])
      refine wpAnyH_ready (rs := [14]) (by kernel_rfl) (by simp) ?_
      refine (AllReadyH.cons (i := 14) (o := ?o14y16) ?ho14y16 (fun K hK => ?_) AllReadyH.nil)
      case ho14y16 => (simp only [List.getElem?_toArray, List.getElem?_cons_succ, List.getElem?_cons_zero]; try rfl)
      go_simp
      go_at_call 20
      (with_reducible refine (HT1.out _ bq10).mono ?_)
      rintro e wq16 ⟨rfl, bs16⟩
      have bq16 := below_step bq10 bs16
      clear bs16
      refine hK.out _ _ (HSS.out _ bq16) (fun _ => ?_)
      clear hK K
      (try simp only [Act.put, List.setIfInBounds_toArray, List.set_cons_zero, List.set_cons_succ])
      refine wpAnyH_ready (rs := [16]) (by kernel_rfl) (by simp) ?_
      refine (AllReadyH.cons (i := 16) (o := ?o16y17) ?ho16y17 (fun K hK => ?_) AllReadyH.nil)
      case ho16y17 => (simp only [List.getElem?_toArray, List.getElem?_cons_succ, List.getElem?_cons_zero]; try rfl)
      go_simp
      go_at_call 18
      (with_reducible refine (arbourkeep_Head.calls s 9 (headL s) _ (head_some s).1).mono ?_)
      rintro e wq17 ⟨rfl, hd17⟩
      have bs17 := Drawn0.below hd17
      clear hd17
      rw [HHD.out]
      have bq17 := below_step bq16 bs17
      clear bs17
      refine hK.out _ _ (HSS.out _ bq17) (fun _ => ?_)
      clear hK K
      (try simp only [Act.put, List.setIfInBounds_toArray, List.set_cons_zero, List.set_cons_succ])
      refine wpAnyH_take (i := 17) (oi := ?o17x18) (v := ?v17x18) ?ho17x18 (by kernel_rfl) (by kernel_rfl) (by kernel_rfl) ?hQ17x18 (Or.inl ⟨?hw17x18, ?hy17x18⟩) (by assumption) ?_
      case ho17x18 => (simp only [List.getElem?_toArray, List.getElem?_cons_succ, List.getElem?_cons_zero]; try rfl)
      case hQ17x18 => exact fun _ _ _ h => h
      case hw17x18 => rfl
      case hy17x18 => (intro w hSw; (try dsimp only at hSw); go_simp; (first | done | (with_reducible rfl)))
      (try simp only [Act.put, List.setIfInBounds_toArray, List.set_cons_zero, List.set_cons_succ])
      refine wpAnyH_take (i := 18) (oi := ?o18x19) (v := ?v18x19) ?ho18x19 (by kernel_rfl) (by kernel_rfl) (by kernel_rfl) ?hQ18x19 (Or.inl ⟨?hw18x19, ?hy18x19⟩) (by assumption) ?_
      case ho18x19 => (simp only [List.getElem?_toArray, List.getElem?_cons_succ, List.getElem?_cons_zero]; try rfl)
      case hQ18x19 => exact fun _ _ _ h => h
      case hw18x19 => rfl
      case hy18x19 => (intro w hSw; (try dsimp only at hSw); go_simp; (first | done | (with_reducible rfl)))
      (try simp only [Act.put, List.setIfInBounds_toArray, List.set_cons_zero, List.set_cons_succ])
      refine wpAnyH_take (i := 19) (oi := ?o19x20) (v := ?v19x20) ?ho19x20 (by kernel_rfl) (by kernel_rfl) (by kernel_rfl) ?hQ19x20 (Or.inl ⟨?hw19x20, ?hy19x20⟩) (by assumption) ?_
      case ho19x20 => (simp only [List.getElem?_toArray, List.getElem?_cons_succ, List.getElem?_cons_zero]; try rfl)
      case hQ19x20 => exact fun _ _ _ h => h
      case hw19x20 => rfl
      case hy19x20 => (intro w hSw; (try dsimp only at hSw); go_simp; (first | done | (with_reducible rfl)))
      (try simp only [Act.put, List.setIfInBounds_toArray, List.set_cons_zero, List.set_cons_succ])
      refine wpAnyH_take (i := 20) (oi := ?o20x21) (v := ?v20x21) ?ho20x21 (by kernel_rfl) (by kernel_rfl) (by kernel_rfl) ?hQ20x21 (Or.inl ⟨?hw20x21, ?hy20x21⟩) (by assumption) ?_
      case ho20x21 => (simp only [List.getElem?_toArray, List.getElem?_cons_succ, List.getElem?_cons_zero]; try rfl)
      case hQ20x21 => exact fun _ _ _ h => h
      case hw20x21 => rfl
      case hy20x21 => (intro w hSw; (try dsimp only at hSw); go_simp; (first | done | (with_reducible rfl)))
      (try simp only [Act.put, List.setIfInBounds_toArray, List.set_cons_zero, List.set_cons_succ])
      refine wpAnyH_take (i := 21) (oi := ?o21x22) (v := ?v21x22) ?ho21x22 (by kernel_rfl) (by kernel_rfl) (by kernel_rfl) ?hQ21x22 (Or.inl ⟨?hw21x22, ?hy21x22⟩) (by assumption) ?_
      case ho21x22 => (simp only [List.getElem?_toArray, List.getElem?_cons_succ, List.getElem?_cons_zero]; try rfl)
      case hQ21x22 => exact fun _ _ _ h => h
      case hw21x22 => rfl
      case hy21x22 => (intro w hSw; (try dsimp only at hSw); go_simp; (first | done | (with_reducible rfl)))
      (try simp only [Act.put, List.setIfInBounds_toArray, List.set_cons_zero, List.set_cons_succ])
      refine wpAnyH_ready (rs := [22]) (by kernel_rfl) (by simp) ?_
      refine (AllReadyH.cons (i := 22) (o := ?o22y23) ?ho22y23 (fun K hK => ?_) AllReadyH.nil)
      case ho22y23 => (simp only [List.getElem?_toArray, List.getElem?_cons_succ, List.getElem?_cons_zero]; try rfl)
      go_simp
      go_at_call 21
      (with_reducible refine (HR1.out _ bq17).mono ?_)
      rintro e wq23 ⟨rfl, bs23⟩
      have bq23 := below_step bq17 bs23
      clear bs23
      refine hK.out _ _ (HSS.out _ bq23) (fun _ => ?_)
      clear hK K
      (try simp only [Act.put, List.setIfInBounds_toArray, List.set_cons_zero, List.set_cons_succ])
      refine wpAnyH_take (i := 23) (oi := ?o23x24) (v := ?v23x24) ?ho23x24 (by kernel_rfl) (by kernel_rfl) (by kernel_rfl) ?hQ23x24 (Or.inl ⟨?hw23x24, ?hy23x24⟩) (by assumption) ?_
      case ho23x24 => (simp only [List.getElem?_toArray, List.getElem?_cons_succ, List.getElem?_cons_zero]; try rfl)
      case hQ23x24 => exact fun _ _ _ h => h
      case hw23x24 => rfl
      case hy23x24 => (intro w hSw; (try dsimp only at hSw); go_simp; (first | done | (with_reducible rfl)))
      (try simp only [Act.put, List.setIfInBounds_toArray, List.set_cons_zero, List.set_cons_succ])
      refine wpAnyH_take (i := 24) (oi := ?o24x25) (v := ?v24x25) ?ho24x25 (by kernel_rfl) (by kernel_rfl) (by kernel_rfl) ?hQ24x25 (Or.inl ⟨?hw24x25, ?hy24x25⟩) (by assumption) ?_
      case ho24x25 => (simp only [List.getElem?_toArray, List.getElem?_cons_succ, List.getElem?_cons_zero]; try rfl)
      case hQ24x25 => exact fun _ _ _ h => h
      case hw24x25 => rfl
      case hy24x25 => (intro w hSw; (try dsimp only at hSw); go_simp; (first | done | (with_reducible rfl)))
      (try simp only [Act.put, List.setIfInBounds_toArray, List.set_cons_zero, List.set_cons_succ])
      refine wpAnyH_take (i := 25) (oi := ?o25x26) (v := ?v25x26) ?ho25x26 (by kernel_rfl) (by kernel_rfl) (by kernel_rfl) ?hQ25x26 (Or.inl ⟨?hw25x26, ?hy25x26⟩) (by assumption) ?_
      case ho25x26 => (simp only [List.getElem?_toArray, List.getElem?_cons_succ, List.getElem?_cons_zero]; try rfl)
      case hQ25x26 => exact fun _ _ _ h => h
      case hw25x26 => rfl
      case hy25x26 => (intro w hSw; (try dsimp only at hSw); go_simp; (first | done | (with_reducible rfl)))
      (try simp only [Act.put, List.setIfInBounds_toArray, List.set_cons_zero, List.set_cons_succ])
      refine wpAnyH_take (i := 26) (oi := ?o26x27) (v := ?v26x27) ?ho26x27 (by kernel_rfl) (by kernel_rfl) (by kernel_rfl) ?hQ26x27 (Or.inl ⟨?hw26x27, ?hy26x27⟩) (by assumption) ?_
      case ho26x27 => (simp only [List.getElem?_toArray, List.getElem?_cons_succ, List.getElem?_cons_zero]; try rfl)
      case hQ26x27 => exact fun _ _ _ h => h
      case hw26x27 => rfl
      case hy26x27 => (intro w hSw; (try dsimp only at hSw); go_simp; (first | done | (with_reducible rfl)))
      (try simp only [Act.put, List.setIfInBounds_toArray, List.set_cons_zero, List.set_cons_succ])
      refine wpAnyH_ready (rs := [27]) (by kernel_rfl) (by simp) ?_
      refine (AllReadyH.cons (i := 27) (o := ?o27y28) ?ho27y28 (fun K hK => ?_) AllReadyH.nil)
      case ho27y28 => (simp only [List.getElem?_toArray, List.getElem?_cons_succ, List.getElem?_cons_zero]; try rfl)
      go_simp
      go_at_call 14
      (with_reducible refine (HCP.out _ bq23).mono ?_)
      rintro e wq28 ⟨K3, k3, K5, k5, rfl, tc, bs28⟩
      have HTC := hide tc
      clear tc
      have bq28 := below_step bq23 bs28
      clear bs28
      refine hK.out _ _ (HSS.out _ bq28) (fun _ => ?_)
      clear hK K
      (try simp only [Act.put, List.setIfInBounds_toArray, List.set_cons_zero, List.set_cons_succ])
      refine wpAnyH_ready (rs := [28]) (by kernel_rfl) (by simp) ?_
      refine (AllReadyH.cons (i := 28) (o := ?o28y29) ?ho28y29 (fun K hK => ?_) AllReadyH.nil)
      case ho28y29 => (simp only [List.getElem?_toArray, List.getElem?_cons_succ, List.getElem?_cons_zero]; try rfl)
      go_simp
      go_at_call 12
      (with_reducible refine (HSC.out _ bq28 _ HTC.out).mono ?_)
      rintro e wq29 ⟨rfl, bs29⟩
      have bq29 := below_step bq28 bs29
      clear bs29
      refine hK.out _ _ (HSS.out _ bq29) (fun _ => ?_)
      clear hK K
      (try simp only [Act.put, List.setIfInBounds_toArray, List.set_cons_zero, List.set_cons_succ])
      refine wpAnyH_take (i := 29) (oi := ?o29x30) (v := ?v29x30) ?ho29x30 (by kernel_rfl) (by kernel_rfl) (by kernel_rfl) ?hQ29x30 (Or.inl ⟨?hw29x30, ?hy29x30⟩) (by assumption) ?_
      case ho29x30 => (simp only [List.getElem?_toArray, List.getElem?_cons_succ, List.getElem?_cons_zero]; try rfl)
      case hQ29x30 => exact fun _ _ _ h => h
      case hw29x30 => rfl
      case hy29x30 => (intro w hSw; (try dsimp only at hSw); go_simp; (first | done | (with_reducible rfl)))
      (try simp only [Act.put, List.setIfInBounds_toArray, List.set_cons_zero, List.set_cons_succ])
      refine wpAnyH_take (i := 30) (oi := ?o30x31) (v := ?v30x31) ?ho30x31 (by kernel_rfl) (by kernel_rfl) (by kernel_rfl) ?hQ30x31 (Or.inl ⟨?hw30x31, ?hy30x31⟩) (by assumption) ?_
      case ho30x31 => (simp only [List.getElem?_toArray, List.getElem?_cons_succ, List.getElem?_cons_zero]; try rfl)
      case hQ30x31 => exact fun _ _ _ h => h
      case hw30x31 => rfl
      case hy30x31 => (intro w hSw; (try dsimp only at hSw); go_simp; (first | done | (with_reducible rfl)))
      (try simp only [Act.put, List.setIfInBounds_toArray, List.set_cons_zero, List.set_cons_succ])
      refine wpAnyH_take (i := 31) (oi := ?o31x32) (v := ?v31x32) ?ho31x32 (by kernel_rfl) (by kernel_rfl) (by kernel_rfl) ?hQ31x32 (Or.inl ⟨?hw31x32, ?hy31x32⟩) (by assumption) ?_
      case ho31x32 => (simp only [List.getElem?_toArray, List.getElem?_cons_succ, List.getElem?_cons_zero]; try rfl)
      case hQ31x32 => exact fun _ _ _ h => h
      case hw31x32 => rfl
      case hy31x32 => (intro w hSw; (try dsimp only at hSw); go_simp; (first | done | (with_reducible rfl)))
      (try simp only [Act.put, List.setIfInBounds_toArray, List.set_cons_zero, List.set_cons_succ])
      refine wpAnyH_take (i := 32) (oi := ?o32x33) (v := ?v32x33) ?ho32x33 (by kernel_rfl) (by kernel_rfl) (by kernel_rfl) ?hQ32x33 (Or.inl ⟨?hw32x33, ?hy32x33⟩) (by assumption) ?_
      case ho32x33 => (simp only [List.getElem?_toArray, List.getElem?_cons_succ, List.getElem?_cons_zero]; try rfl)
      case hQ32x33 => exact fun _ _ _ h => h
      case hw32x33 => rfl
      case hy32x33 => (intro w hSw; (try dsimp only at hSw); go_simp; (first | done | (with_reducible rfl)))
      (try simp only [Act.put, List.setIfInBounds_toArray, List.set_cons_zero, List.set_cons_succ])
      refine wpAnyH_ready (rs := [33]) (by kernel_rfl) (by simp) ?_
      refine (AllReadyH.cons (i := 33) (o := ?o33y34) ?ho33y34 (fun K hK => ?_) AllReadyH.nil)
      case ho33y34 => (simp only [List.getElem?_toArray, List.getElem?_cons_succ, List.getElem?_cons_zero]; try rfl)
      go_simp
      go_at_call 12
      (with_reducible refine (HS2.out _ bq29).mono ?_)
      rintro e wq34 ⟨rfl, bs34⟩
      have bq34 := below_step bq29 bs34
      clear bs34
      refine hK.out _ _ (HSS.out _ bq34) (fun _ => ?_)
      clear hK K
      (try simp only [Act.put, List.setIfInBounds_toArray, List.set_cons_zero, List.set_cons_succ])
      refine wpAnyH_take (i := 34) (oi := ?o34x35) (v := ?v34x35) ?ho34x35 (by kernel_rfl) (by kernel_rfl) (by kernel_rfl) ?hQ34x35 (Or.inl ⟨?hw34x35, ?hy34x35⟩) (by assumption) ?_
      case ho34x35 => (simp only [List.getElem?_toArray, List.getElem?_cons_succ, List.getElem?_cons_zero]; try rfl)
      case hQ34x35 => exact fun _ _ _ h => h
      case hw34x35 => rfl
      case hy34x35 => (intro w hSw; (try dsimp only at hSw); go_simp; (first | done | (with_reducible rfl)))
      (try simp only [Act.put, List.setIfInBounds_toArray, List.set_cons_zero, List.set_cons_succ])
      refine wpAnyH_take (i := 35) (oi := ?o35x36) (v := ?v35x36) ?ho35x36 (by kernel_rfl) (by kernel_rfl) (by kernel_rfl) ?hQ35x36 (Or.inl ⟨?hw35x36, ?hy35x36⟩) (by assumption) ?_
      case ho35x36 => (simp only [List.getElem?_toArray, List.getElem?_cons_succ, List.getElem?_cons_zero]; try rfl)
      case hQ35x36 => exact fun _ _ _ h => h
      case hw35x36 => rfl
      case hy35x36 => (intro w hSw; (try dsimp only at hSw); go_simp; (first | done | (with_reducible rfl)))
      (try simp only [Act.put, List.setIfInBounds_toArray, List.set_cons_zero, List.set_cons_succ])
      refine wpAnyH_take (i := 36) (oi := ?o36x37) (v := ?v36x37) ?ho36x37 (by kernel_rfl) (by kernel_rfl) (by kernel_rfl) ?hQ36x37 (Or.inl ⟨?hw36x37, ?hy36x37⟩) (by assumption) ?_
      case ho36x37 => (simp only [List.getElem?_toArray, List.getElem?_cons_succ, List.getElem?_cons_zero]; try rfl)
      case hQ36x37 => exact fun _ _ _ h => h
      case hw36x37 => rfl
      case hy36x37 => (intro w hSw; (try dsimp only at hSw); go_simp; (first | done | (with_reducible rfl)))
      (try simp only [Act.put, List.setIfInBounds_toArray, List.set_cons_zero, List.set_cons_succ])
      refine wpAnyH_ready (rs := [37]) (by kernel_rfl) (by simp) ?_
      refine (AllReadyH.cons (i := 37) (o := ?o37y38) ?ho37y38 (fun K hK => ?_) AllReadyH.nil)
      case ho37y38 => (simp only [List.getElem?_toArray, List.getElem?_cons_succ, List.getElem?_cons_zero]; try rfl)
      go_simp
      go_at_call 13
      (with_reducible refine (known _).mono ?_)
      rintro e wq38 ⟨rfl, bs38⟩
      have bq38 := below_step bq34 bs38
      clear bs38
      refine hK.out _ _ (HSS.out _ bq38) (fun _ => ?_)
      clear hK K
      (try simp only [Act.put, List.setIfInBounds_toArray, List.set_cons_zero, List.set_cons_succ])
      refine wpAnyH_take (i := 38) (oi := ?o38x39) (v := ?v38x39) ?ho38x39 (by kernel_rfl) (by kernel_rfl) (by kernel_rfl) ?hQ38x39 (Or.inl ⟨?hw38x39, ?hy38x39⟩) (by assumption) ?_
      case ho38x39 => (simp only [List.getElem?_toArray, List.getElem?_cons_succ, List.getElem?_cons_zero]; try rfl)
      case hQ38x39 => exact fun _ _ _ h => h
      case hw38x39 => rfl
      case hy38x39 => (intro w hSw; (try dsimp only at hSw); go_simp; (first | done | (with_reducible rfl)))
      (try simp only [Act.put, List.setIfInBounds_toArray, List.set_cons_zero, List.set_cons_succ])
      refine wpAnyH_ready (rs := [39]) (by kernel_rfl) (by simp) ?_
      refine (AllReadyH.cons (i := 39) (o := ?o39y40) ?ho39y40 (fun K hK => ?_) AllReadyH.nil)
      case ho39y40 => (simp only [List.getElem?_toArray, List.getElem?_cons_succ, List.getElem?_cons_zero]; try rfl)
      go_simp
      refine hK.out _ _ (HSS.out _ bq38) (fun _ => ?_)
      clear hK K
      (try simp only [Act.put, List.setIfInBounds_toArray, List.set_cons_zero, List.set_cons_succ])
      refine wpAnyH_done (by kernel_rfl) ?_ _
      have HBN := hide bq38
      go_wp2_with fail
      go_ret
      exact ⟨rfl, below_step HB3.out HBN.out⟩
/-- The law, as its row calls it. -/
theorem deep (n : Int) (s : ByteArray) (w : World) : Calls Try.prog 7 #[.int .i64 n, .string s] w fun e w' => e = .returned (.bool true) ∧ Below w.heap.size w w' := treeDeep n s w
end Go.Proofs.Ytaponaemgolmoaa.Tr
