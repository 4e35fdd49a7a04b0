/- The walk of OpTells. -/
import Derived.Test.YtbljbgjecnmeeaaDoorOpTellsP
namespace Go.Proofs.YtbljbgjecnmeeaaDoor.OpP
open Go.RowKit Go.Proofs.YtbljbgjecnmeeaaDoor.POpTells Go.Proofs.YtbljbgjecnmeeaaDoorW.PrintWords Go.Proofs.YtbljbgjecnmeeaaDoorW.PrintLast
set_option linter.unusedVariables false
set_option linter.unusedSimpArgs false
/-- An operation whose guard is not met is passed over. -/
theorem strike_ {P : Program} {md : Region.Mode} {ops : Array Oper} {Q : Exit → Act → World → Prop} {S : World → Prop} {i : Nat} {oi : Oper} {fuel : Nat} {listed : Array Bool} {a : Act} {w : World} (hi : ops[i]? = some oi)
    (hs : Region.noSelect ops = true) (hf : Region.free md ops listed i = true) (hr : (Region.ready md ops listed).contains i = true)
    (hQ : ∀ c a w, Q (.panic c) (a.put oi.dst undef) w → Q (.panic c) a w) (hw : Region.wanted oi (yielded ops a.tmps) = false) (hS : S w)
    (h : wpAnyH P md ops Q S fuel (listed.setIfInBounds i true) (a.put oi.dst undef) w) : wpAnyH P md ops Q S (fuel + 1) listed a w :=
  wpAnyH_take hi hs hf hr hQ (Or.inr ⟨hw, rfl⟩) hS h
/-- What 'made' makes of a Raw. -/
def mk (x : S26) : S24 := madeL x.f0 x.f1 x.f2
/-- What is no row of bytes stays: so does a row of operations. -/
theorem some_bes {w w1 : World} {base : Nat} {ok : Nat → Prop} {v : Value} {l : List S24} (h : k24.R 24 w base ok v l) (hb : Bes w w1) : k24.R 24 w1 base ok v l :=
  Kd.R_mono (Kd.R_move (Kd.R_bound h) (fun k hk => by
    obtain ⟨-, -, -, q, hq, cells, hc⟩ := hk
    rw [hc]
    exact hb k cells q hc (fun e => by subst e; exact absurd hq (by decide)))) (fun _ hk => hk.1)
/-- A row of operations is written: a row of bytes stays. -/
theorem row_grown {w W W1 : World} {bv sv : Value} {l : List Int} {L : List S24} {base : Nat} {ok : Nat → Prop} (hW : Row w bv l W) (hs : k24.R 24 W base ok sv L) (hg : W.grownBy W1 sv.ownBlock) (hB : Below w.heap.size w W1) : Row w bv l W1 := by
  obtain ⟨A, c, rfl, hR, -⟩ := hW
  refine ⟨A, c, rfl, Kd.R_mono (Kd.R_grown (Kd.R_bound hR) hg (fun k hk => ?_)) (fun _ _ => trivial), hB⟩
  obtain ⟨-, -, -, q, hq, cells, hc⟩ := hk
  rcases List.mem_cons.1 hq with e | e
  case inr => cases (show q ∈ ([] : List Nat) from e)
  subst e
  exact Kd.R_ne hs hc (by decide)
/-- One more operation: the block of its cells, its attributes. -/
theorem mk24 (o : S24) {W : World} {base : Nat} {sv : Value} {L : List S24} {ok0 : Nat → Prop} {v7 : Value} {w0 : World} (hs : k24.R 24 w0 base ok0 sv L) (hb : base ≤ w0.heap.size) (h7 : k32.R 32 W w0.heap.size (fun _ => True) v7 o.f7) :
    k24.M W base (fun k => True ∧ some k ≠ sv.ownBlock) o [.int .i64 o.f0, .int .i64 o.f1, .int .i64 o.f2, .int .i64 o.f3, .int .i64 o.f4, .int .i64 o.f5, .string o.f6, v7, .string o.f8] := by
  obtain ⟨inner, ho⟩ := Kd.R_own hs
  exact k24_mkM W base _ o (Kd.R_lower (Kd.R_new h7 ho) hb)
/-- What 'made' makes is right only if it may be written. -/
theorem all_ok (l : List S26) (k : Nat) (hI : ∀ x ∈ l, I64 x.f0.f0 ∧ I64 x.f0.f1 ∧ I64 x.f0.f2 ∧ I64 x.f0.f3 ∧ I64 x.f0.f4 ∧ I64 x.f0.f5) : ((l.take k).map mk).all okB = ((l.take k).map mk).all rightB := by
  have h : ∀ y ∈ (l.take k).map mk, okB y = rightB y := by
    intro y hy
    obtain ⟨x, hx, rfl⟩ := List.mem_map.1 hy
    have hf : fitsB (mk x) = true := small_fits _ (small_made x.f0 x.f1 x.f2 (hI x (List.mem_of_mem_take hx)))
    unfold okB
    rw [hf, Bool.and_true]
  rw [Bool.eq_iff_iff, List.all_eq_true, List.all_eq_true]
  exact ⟨fun g y hy => (h y hy) ▸ g y hy, fun g y hy => (h y hy).symm ▸ g y hy⟩
theorem made_len (l : List S26) (k : Nat) (hk : k ≤ 20) (hI : ∀ x ∈ l, I64 x.f0.f0 ∧ I64 x.f0.f1 ∧ I64 x.f0.f2 ∧ I64 x.f0.f3 ∧ I64 x.f0.f4 ∧ I64 x.f0.f5) : (encL ((l.take k).map mk)).length ≤ 100000000000 := by
  have h : ∀ m : List S26, (∀ x ∈ m, x ∈ l) → (encL (m.map mk)).length ≤ 1000 * m.length := by
    intro m
    induction m with
    | nil => intro _; simp [encL]
    | cons x m ih =>
      intro hm
      have h1 := ih (fun y hy => hm y (List.mem_cons_of_mem _ hy))
      have h2 := encO_len (mk x) (small_made x.f0 x.f1 x.f2 (hI x (hm x List.mem_cons_self)))
      unfold encL at h1 ⊢
      rw [List.map_cons, List.flatMap_cons, List.length_append, List.length_cons]
      omega
  have h1 := h (l.take k) (fun x hx => List.mem_of_mem_take hx)
  have h2 : (l.take k).length ≤ 20 := by rw [List.length_take]; omega
  omega
theorem blk9 {w2 W : World} {g : Nat} {o : Obj} (h : w2.heap[g]? = some o) (hb : Below w2.heap.size w2 W) : W.heap[g]? = some o := (hb.block _ (blk_lt h)).trans h
theorem encL_snoc (L : List S24) (o : S24) : encL (L ++ [o]) = encL L ++ encO o := by unfold encL; simp
/-- At the loop's head. -/
def TelRel (w : World) (l : List S26) (k : Nat) (s b q : Value) (wr : World) : Prop := k24.R 24 wr w.heap.size (fun _ => True) s ((l.take k).map mk) ∧ (∃ W, Row w b W wr ∧ W.length ≤ 1000 * k ∧ (((l.take k).map mk).all rightB = true → W = encL ((l.take k).map mk))) ∧ q = .bool (((l.take k).map mk).all rightB) ∧ Below w.heap.size w wr
theorem info24 : (Tryd.prog.info? 24).map (fun i => (i.zero, i.size, i.bytes)) = some (some (.agg #[.int .i64 0, .int .i64 0, .int .i64 0, .int .i64 0, .int .i64 0, .int .i64 0, .string ⟨#[]⟩, .slice none 0 0, .string ⟨#[]⟩]), 9, 104) := by kernel_rfl
/-- A round's end. -/
theorem telStep {w : World} {l : List S26} {k : Nat} {L : List S24} {o : S24} {qb rb : Bool} {W : List Int} {sv' bv' : Value} {wr' : World} (W' : List Int) (hst : (l.take (k + 1)).map mk = L ++ [o]) (hq : L.all rightB = qb) (hr : rightB o = rb) (hWe : qb = true → W = encL L) (hWl : W.length ≤ 1000 * k) (hsm : Small o)
    (hs : k24.R 24 wr' w.heap.size (fun _ => True) sv' (L ++ [o])) (hrow : Row w bv' W' wr') (hW' : W' = if (qb && rb) = true then W ++ encO o else W) : TelRel w l (k + 1) sv' bv' (.bool (qb && rb)) wr' := by
  have ha : (L ++ [o]).all rightB = (qb && rb) := by rw [List.all_append, hq]; simp [hr]
  have he := encO_len o hsm
  unfold TelRel
  rw [hst, ha]
  refine ⟨hs, ⟨W', hrow, ?_, fun h => ?_⟩, rfl, hrow.all⟩
  · rw [hW']
    split
    · rw [List.length_append]; omega
    · omega
  · rw [if_pos h] at hW'
    rw [Bool.and_eq_true] at h
    rw [hW', hWe h.1, encL_snoc]
set_option maxHeartbeats 20000000 in
set_option maxRecDepth 100000 in
theorem opTells (l : List S26) (A : Option Addr) (c : Nat) (w : World) (hC : k26.C w A l.length l ∧ l.length ≤ c) (hI : ∀ x ∈ l, I64 x.f0.f0 ∧ I64 x.f0.f1 ∧ I64 x.f0.f2 ∧ I64 x.f0.f3 ∧ I64 x.f0.f4 ∧ I64 x.f0.f5) (ht : TabOk w) :
    Calls Tryd.prog 5 #[.slice A l.length c] w fun e w' => e = .returned (.bool true) ∧ Below w.heap.size w w' := by
  have HC := hide hC.1
  have hmx := hC.1.2.1
  unfold maxLen at hmx
  have HI := hide hI
  have HT := hide ht
  clear hC hI ht
  obtain ⟨n, hn⟩ : ∃ n, l.length = n := ⟨_, rfl⟩
  have HN := hide hn
  rw [hn] at hmx ⊢
  clear hn
  go_enter Tryd.func5, Tryd.ntmps5
  go_wp2_with fail
  go_loopw [3, 4, 5, 6] (fun s b q i wr => ∃ (sv bv qv : Value) (k : Nat), sv = s ∧ bv = b ∧ qv = q ∧ k ≤ n ∧ k ≤ 20 ∧ i = .int .i64 (k : Int) ∧ Aside0 (TelRel w l k sv bv qv wr)) (fun _ _ _ i _ => 20 - (intOf i).toNat)
  case atStart => exact ⟨_, _, _, 0, rfl, rfl, rfl, Nat.zero_le _, by omega, rfl, ⟨Kd.R_nil .., ⟨[], ⟨none, 0, rfl, Kd.R_nil .., Below.refl _ _⟩, by simp, fun _ => rfl⟩, rfl, Below.refl _ _⟩⟩
  case round =>
    obtain ⟨sv, bv, qv, k, rfl, rfl, rfl, hk, hk20, rfl, hrel⟩ := hrel
    by_cases hlt : k < n ∧ k < 20
    · obtain ⟨hs, ⟨W, hW, hWl, hWe⟩, hq, hB⟩ := hrel.out
      have hkl : k < l.length := by rw [HN.out]; exact hlt.1
      obtain ⟨ad, A0, c0, hA, e0, e1, e2, e3, e4, e5, e6, e7, e8, e9, e10, l0, g0⟩ := at_T26 HC.out (k : Int) (by omega) (by omega)
      rw [Int.toNat_natCast] at e0 e1 e2 e3 e4 e5 e6 e7 e8 e9 e10
      have hx : rd_T26 l (k : Int) = l[k] := by
        unfold rd_T26
        rw [Int.toNat_natCast, List.getD_eq_getElem?_getD, List.getElem?_eq_getElem hkl]
        rfl
      have hxi := HI.out l[k] (List.getElem_mem hkl)
      have hst : (l.take (k + 1)).map mk = (l.take k).map mk ++ [mk l[k]] := by rw [List.take_succ_eq_append_getElem hkl, List.map_append]; rfl
      rw [hx] at e0 e1 e2 e3 e4 e5 e6 e7 e8 e9 e10 l0 g0
      obtain ⟨⟨r, tm, kd⟩, hxx⟩ : ∃ x, l[k] = x := ⟨_, rfl⟩
      rw [hxx] at e0 e1 e2 e3 e4 e5 e6 e7 e8 e9 e10 l0 g0 hxi hst
      dsimp only at e0 e1 e2 e3 e4 e5 e6 e7 e8 e9 e10 l0 g0 hxi
      have hsm : Small (mk ⟨r, tm, kd⟩) := small_made r tm kd hxi
      have HMD := hide (made r tm kd A0 c0 wr (Kd.C_below g0 hB) l0)
      rw [show madeL r tm kd = mk ⟨r, tm, kd⟩ from rfl] at HMD
      obtain ⟨⟨o0, o1, o2, o3, o4, o5, o6, o7, o8⟩, ho⟩ : ∃ o, mk ⟨r, tm, kd⟩ = o := ⟨_, rfl⟩
      rw [ho] at hst hsm HMD
      unfold opV at HMD
      dsimp only at HMD
      have e0 := cellW e0 hB
      have e1 := cellW e1 hB
      have e2 := cellW e2 hB
      have e3 := cellW e3 hB
      have e4 := cellW e4 hB
      have e5 := cellW e5 hB
      have e6 := cellW e6 hB
      have e7 := cellW e7 hB
      have e8 := cellW e8 hB
      have e9 := cellW e9 hB
      have e10 := cellW e10 hB
      obtain ⟨r0, r1, r2, r3, r4, r5, r6, r7, r8⟩ := r
      dsimp only at e0 e1 e2 e3 e4 e5 e6 e7 e8 HMD
      obtain ⟨L, hL⟩ : ∃ L, (l.take k).map mk = L := ⟨_, rfl⟩
      rw [hL] at hs hWe hq hst
      obtain ⟨qb, hqb⟩ : ∃ b, L.all rightB = b := ⟨_, rfl⟩
      rw [hqb] at hWe hq
      have HQB := hide hqb
      have hLk : L.length = k := by rw [← hL, List.length_map, List.length_take]; omega
      subst hq
      have HS := hide hs
      have HW := hide hW
      have HWL := hide hWl
      have HWE := hide hWe
      have HST := hide hst
      have HSM := hide hsm
      have HBR := hide hB
      have HLK := hide hLk
      subst hA
      have k1 : (k : Int) < (n : Int) := by omega
      have k2 : (0 : Int) ≤ (k : Int) := by omega
      have k3 : (k : Int) < 20 := by omega
      clear hqb hs hW hWl hWe hB hrel hkl l0 g0 hx hxi hst hxx hsm ho hL hLk hlt
      go_wp2_with fail
      refine HMD.out.mono ?_
      rintro e w1 ⟨v7, rfl, hR7, hb1⟩
      obtain ⟨A7, c7, rfl, hl7, hC7⟩ := Kd.R_reads hR7
      dsimp only
      have HBR1 := hide (below_step HBR.out hb1)
      have hn2 := heap_alloc_new w1 (.cells #[.int .i64 o0, .int .i64 o1, .int .i64 o2, .int .i64 o3, .int .i64 o4, .int .i64 o5, .string o6, .slice A7 o7.length c7, .string o8] 24)
      have b2 := below_alloc (Below.refl w1.heap.size w1) (.cells #[.int .i64 o0, .int .i64 o1, .int .i64 o2, .int .i64 o3, .int .i64 o4, .int .i64 o5, .string o6, .slice A7 o7.length c7, .string o8] 24)
      obtain ⟨w2, hw2⟩ : ∃ w2, w1.alloc (.cells #[.int .i64 o0, .int .i64 o1, .int .i64 o2, .int .i64 o3, .int .i64 o4, .int .i64 o5, .string o6, .slice A7 o7.length c7, .string o8] 24) = w2 := ⟨_, rfl⟩
      rw [hw2] at hn2 b2
      obtain ⟨g, hg⟩ : ∃ g, w1.heap.size = g := ⟨_, rfl⟩
      rw [hg] at hn2
      have HO2 := hide hn2
      have HB12 := hide (below_step hb1 b2)
      have HBR2 := hide (below_step HBR1.out b2)
      have HR7 := hide (Kd.R_below hR7 b2)
      have HGE := hide (show wr.heap.size ≤ g from by rw [← hg]; exact hb1.size)
      have HC7 := hide (Kd.C_below hC7 b2)
      have HL7 := hide hl7
      have HW2 := hide hw2
      have HG := hide hg
      have HT2 := hide (HT.out.below HBR2.out)
      have hC2 := HC7.out
      have hsm := HSM.out
      have HR8 := hide (fun W (hb : Below w2.heap.size w2 W) => right ⟨o0, o1, o2, o3, o4, o5, o6, o7, o8⟩ A7 c7 W (Kd.C_below hC2 hb) hl7)
      have HR14 := hide (fun W (hb : Below w2.heap.size w2 W) => refRight ⟨o0, o1, o2, o3, o4, o5, o6, o7, o8⟩ A7 c7 W (Kd.C_below hC2 hb) hl7)
      have htl := text_len ⟨o0, o1, o2, o3, o4, o5, o6, o7, o8⟩ hsm.i (by have := hsm.s6; omega) hsm.s7 (by have := hsm.s8; omega)
      have hll := lineL_len ⟨o0, o1, o2, o3, o4, o5, o6, o7, o8⟩ hsm
      have HR11 := hide (fun W (hb : Below w2.heap.size w2 W) => text ⟨o0, o1, o2, o3, o4, o5, o6, o7, o8⟩ A7 c7 W (Kd.C_below hC2 hb) hsm.i (by omega) (HT2.out.below hb))
      have HR15 := hide (fun W (hb : Below w2.heap.size w2 W) => line ⟨o0, o1, o2, o3, o4, o5, o6, o7, o8⟩ A7 c7 W (Kd.C_below hC2 hb) hsm.i (by omega))
      dsimp only at HR8 HR14 HR11 HR15
      have hlt' : lowB ⟨o0, o1, o2, o3, o4, o5, o6, o7, o8⟩ = true → lineL ⟨o0, o1, o2, o3, o4, o5, o6, o7, o8⟩ = textL ⟨o0, o1, o2, o3, o4, o5, o6, o7, o8⟩ := fun h => by
        unfold lowB at h
        simp only [Bool.and_eq_true, decide_eq_true_eq] at h
        exact line_text _ (Int.le_of_lt h.2.2.2.1) (Int.le_of_lt h.1) (Int.le_of_lt h.2.1) (Int.le_of_lt h.2.2.1) (Int.le_of_lt h.2.2.2.2.1) (Int.le_of_lt h.2.2.2.2.2)
      obtain ⟨rb, hrb⟩ : ∃ b, rightB ⟨o0, o1, o2, o3, o4, o5, o6, o7, o8⟩ = b := ⟨_, rfl⟩
      rw [hrb] at HR8 HR14
      have HRB := hide hrb
      obtain ⟨st, hst1⟩ : ∃ s : ByteArray, (⟨(textL ⟨o0, o1, o2, o3, o4, o5, o6, o7, o8⟩).toArray⟩ : ByteArray) = s := ⟨_, rfl⟩
      obtain ⟨sl, hsl1⟩ : ∃ s : ByteArray, (⟨(lineL ⟨o0, o1, o2, o3, o4, o5, o6, o7, o8⟩).toArray⟩ : ByteArray) = s := ⟨_, rfl⟩
      rw [hst1] at HR11
      rw [hsl1] at HR15
      have hlow : lowB ⟨o0, o1, o2, o3, o4, o5, o6, o7, o8⟩ = true → st = sl := fun h => by rw [← hst1, ← hsl1, hlt' h]
      have HLOW := hide hlow
      clear e0 e1 e2 e3 e4 e5 e6 e7 e8 e9 e10 hR7 hb1 hl7 hC7 hn2 b2 hw2 hg hC2 hsm htl hll hlt' hrb hst1 hsl1 hlow HMD
      go_upto_region 8 with fail
      rw [HW2.out, HG.out]
      have cY0 : w2.cell? ⟨g, 0, none⟩ = some (.int .i64 o0) := cell_of_row _ _ 0 _ _ _ HO2.out
      have cY1 : w2.cell? ⟨g, 1, none⟩ = some (.int .i64 o1) := cell_of_row _ _ 1 _ _ _ HO2.out
      have cY2 : w2.cell? ⟨g, 2, none⟩ = some (.int .i64 o2) := cell_of_row _ _ 2 _ _ _ HO2.out
      have cY3 : w2.cell? ⟨g, 3, none⟩ = some (.int .i64 o3) := cell_of_row _ _ 3 _ _ _ HO2.out
      have cY4 : w2.cell? ⟨g, 4, none⟩ = some (.int .i64 o4) := cell_of_row _ _ 4 _ _ _ HO2.out
      have cY5 : w2.cell? ⟨g, 5, none⟩ = some (.int .i64 o5) := cell_of_row _ _ 5 _ _ _ HO2.out
      have cY6 : w2.cell? ⟨g, 6, none⟩ = some (.string o6) := cell_of_row _ _ 6 _ _ _ HO2.out
      have cY7 : w2.cell? ⟨g, 7, none⟩ = some (.slice A7 o7.length c7) := cell_of_row _ _ 7 _ _ _ HO2.out
      have cY8 : w2.cell? ⟨g, 8, none⟩ = some (.string o8) := cell_of_row _ _ 8 _ _ _ HO2.out
      go_cut [66] from 25 to 66 (fun v wx => v = .bool false ∧ Below w2.heap.size w2 wx)
      case first =>
        have hrr : (rb != rb) = false := by cases rb <;> rfl
        have hlo := HLOW.out
        unfold lowB at hlo
        dsimp only at hlo
        have hre : (rb == rb) = true := by cases rb <;> rfl
        have hD : ((st.toList == sl.toList) = true ∧ (st.toList != sl.toList) = false) ∨ ((st.toList == sl.toList) = false ∧ (st.toList != sl.toList) = true ∧ decide (-4611686018427387904 < o1) = false) ∨ ((st.toList == sl.toList) = false ∧ (st.toList != sl.toList) = true ∧ decide (-4611686018427387904 < o1) = true ∧ decide (-4611686018427387904 < o2) = false) ∨ ((st.toList == sl.toList) = false ∧ (st.toList != sl.toList) = true ∧ decide (-4611686018427387904 < o1) = true ∧ decide (-4611686018427387904 < o2) = true ∧ decide (-4611686018427387904 < o3) = false) ∨ ((st.toList == sl.toList) = false ∧ (st.toList != sl.toList) = true ∧ decide (-4611686018427387904 < o1) = true ∧ decide (-4611686018427387904 < o2) = true ∧ decide (-4611686018427387904 < o3) = true ∧ decide (-4611686018427387904 < o0) = false) ∨ ((st.toList == sl.toList) = false ∧ (st.toList != sl.toList) = true ∧ decide (-4611686018427387904 < o1) = true ∧ decide (-4611686018427387904 < o2) = true ∧ decide (-4611686018427387904 < o3) = true ∧ decide (-4611686018427387904 < o0) = true ∧ decide (-4611686018427387904 < o4) = false) ∨ ((st.toList == sl.toList) = false ∧ (st.toList != sl.toList) = true ∧ decide (-4611686018427387904 < o1) = true ∧ decide (-4611686018427387904 < o2) = true ∧ decide (-4611686018427387904 < o3) = true ∧ decide (-4611686018427387904 < o0) = true ∧ decide (-4611686018427387904 < o4) = true ∧ decide (-4611686018427387904 < o5) = false) := by
          cases gb : (st.toList == sl.toList) with
          | true => exact .inl ⟨rfl, by unfold bne; rw [gb]; rfl⟩
          | false =>
            have gbn : (st.toList != sl.toList) = true := by unfold bne; rw [gb]; rfl
            have gbe : ¬ st.toList = sl.toList := beq_eq_false_iff_ne.1 gb
            cases g0 : decide (-4611686018427387904 < o1) with
            | false => exact .inr (.inl ⟨rfl, gbn, rfl⟩)
            | true =>
            cases g1 : decide (-4611686018427387904 < o2) with
            | false => exact .inr (.inr (.inl ⟨rfl, gbn, rfl, rfl⟩))
            | true =>
            cases g2 : decide (-4611686018427387904 < o3) with
            | false => exact .inr (.inr (.inr (.inl ⟨rfl, gbn, rfl, rfl, rfl⟩)))
            | true =>
            cases g3 : decide (-4611686018427387904 < o0) with
            | false => exact .inr (.inr (.inr (.inr (.inl ⟨rfl, gbn, rfl, rfl, rfl, rfl⟩))))
            | true =>
            cases g4 : decide (-4611686018427387904 < o4) with
            | false => exact .inr (.inr (.inr (.inr (.inr (.inl ⟨rfl, gbn, rfl, rfl, rfl, rfl, rfl⟩)))))
            | true =>
            cases g5 : decide (-4611686018427387904 < o5) with
            | false => exact .inr (.inr (.inr (.inr (.inr (.inr ⟨rfl, gbn, rfl, rfl, rfl, rfl, rfl, rfl⟩)))))
            | true =>
            exact absurd (congrArg ByteArray.toList (hlo (by rw [g0, g1, g2, g3, g4, g5]; rfl))) gbe
        clear hlo
        rcases hD with ⟨gb, gbn⟩ | ⟨gb, gbn, g0⟩ | ⟨gb, gbn, g0, g1⟩ | ⟨gb, gbn, g0, g1, g2⟩ | ⟨gb, gbn, g0, g1, g2, g3⟩ | ⟨gb, gbn, g0, g1, g2, g3, g4⟩ | ⟨gb, gbn, g0, g1, g2, g3, g4, g5⟩
        all_goals
          refine wp_region_held_drew (S := fun W => W.cell? ⟨g, 0, none⟩ = some (.int .i64 o0) ∧ W.cell? ⟨g, 1, none⟩ = some (.int .i64 o1) ∧ W.cell? ⟨g, 2, none⟩ = some (.int .i64 o2) ∧ W.cell? ⟨g, 3, none⟩ = some (.int .i64 o3) ∧ W.cell? ⟨g, 4, none⟩ = some (.int .i64 o4) ∧ W.cell? ⟨g, 5, none⟩ = some (.int .i64 o5) ∧ W.cell? ⟨g, 6, none⟩ = some (.string o6) ∧ W.cell? ⟨g, 7, none⟩ = some (.slice A7 o7.length c7) ∧ W.cell? ⟨g, 8, none⟩ = some (.string o8) ∧ Below w2.heap.size w2 W) (by kernel_rfl) ?kp (fun hSx => ?_)
          case kp => ((try dsimp only); (first | exact o9 HO2.out (Below.refl _ _) | exact o9 HO2.out (Below.drew (Below.refl _ _)) | ((try go_split_ands); exact o9 HO2.out (below_step (by assumption) b15)) | ((try go_split_ands); exact o9 HO2.out (below_step (by assumption) b11)) | ((try go_split_ands); exact o9 HO2.out (below_step (by assumption) b14)) | ((try go_split_ands); exact o9 HO2.out (below_step (by assumption) b8))))
          refine wpAnyH_take (i := 0) (oi := ?o0) (v := ?v0) ?ho0 (by kernel_rfl) (by kernel_rfl) (by kernel_rfl) ?hQ0 (Or.inl ⟨?hw0, ?hy0⟩) (by assumption) ?_
          case ho0 => (simp only [List.getElem?_toArray, List.getElem?_cons_succ, List.getElem?_cons_zero]; try rfl)
          case hQ0 => exact fun _ _ _ h => h
          case hw0 => rfl
          case hy0 => (intro w hSw; (try dsimp only at hSw); go_simp; (first | done | (with_reducible rfl)))
          (try simp only [Act.put, List.setIfInBounds_toArray, List.set_cons_zero, List.set_cons_succ])
          refine wpAnyH_take (i := 2) (oi := ?o2) (v := ?v2) ?ho2 (by kernel_rfl) (by kernel_rfl) (by kernel_rfl) ?hQ2 (Or.inl ⟨?hw2, ?hy2⟩) (by assumption) ?_
          case ho2 => (simp only [List.getElem?_toArray, List.getElem?_cons_succ, List.getElem?_cons_zero]; try rfl)
          case hQ2 => exact fun _ _ _ h => h
          case hw2 => rfl
          case hy2 => (intro w hSw; (try dsimp only at hSw); go_simp; (first | done | (with_reducible rfl)))
          (try simp only [Act.put, List.setIfInBounds_toArray, List.set_cons_zero, List.set_cons_succ])
          refine wpAnyH_ready (rs := [1]) (by kernel_rfl) (by simp) ?_
          refine AllReadyH.cons (i := 1) (o := ?o1) ?ho1 (fun K hK => ?_) AllReadyH.nil
          case ho1 => (simp only [List.getElem?_toArray, List.getElem?_cons_succ, List.getElem?_cons_zero]; try rfl)
          go_simp
          (first | (go_at_call 8; (try go_split_ands); (with_reducible refine (HR8.out _ (by assumption)).mono ?_); rintro e wn ⟨rfl, b8⟩) | (go_at_call 14; (try go_split_ands); (with_reducible refine (HR14.out _ (by assumption)).mono ?_); rintro e wn ⟨rfl, b14⟩) | (go_at_call 11; (try go_split_ands); (with_reducible refine (HR11.out _ (by assumption)).mono ?_); rintro e wn ⟨rfl, b11⟩) | (go_at_call 15; (try go_split_ands); (with_reducible refine (HR15.out _ (by assumption)).mono ?_); rintro e wn ⟨rfl, b15⟩))
          refine hK.out _ _ ?kp1 (fun hSy => ?_)
          case kp1 => ((try dsimp only); (first | exact o9 HO2.out (Below.refl _ _) | exact o9 HO2.out (Below.drew (Below.refl _ _)) | ((try go_split_ands); exact o9 HO2.out (below_step (by assumption) b15)) | ((try go_split_ands); exact o9 HO2.out (below_step (by assumption) b11)) | ((try go_split_ands); exact o9 HO2.out (below_step (by assumption) b14)) | ((try go_split_ands); exact o9 HO2.out (below_step (by assumption) b8))))
          clear hK K
          try clear hSx
          have hSx := hSy
          clear hSy
          (try simp only [Act.put, List.setIfInBounds_toArray, List.set_cons_zero, List.set_cons_succ])
          refine wpAnyH_ready (rs := [3]) (by kernel_rfl) (by simp) ?_
          refine AllReadyH.cons (i := 3) (o := ?o3) ?ho3 (fun K hK => ?_) AllReadyH.nil
          case ho3 => (simp only [List.getElem?_toArray, List.getElem?_cons_succ, List.getElem?_cons_zero]; try rfl)
          go_simp
          (first | (go_at_call 8; (try go_split_ands); (with_reducible refine (HR8.out _ (by assumption)).mono ?_); rintro e wn ⟨rfl, b8⟩) | (go_at_call 14; (try go_split_ands); (with_reducible refine (HR14.out _ (by assumption)).mono ?_); rintro e wn ⟨rfl, b14⟩) | (go_at_call 11; (try go_split_ands); (with_reducible refine (HR11.out _ (by assumption)).mono ?_); rintro e wn ⟨rfl, b11⟩) | (go_at_call 15; (try go_split_ands); (with_reducible refine (HR15.out _ (by assumption)).mono ?_); rintro e wn ⟨rfl, b15⟩))
          refine hK.out _ _ ?kp3 (fun hSy => ?_)
          case kp3 => ((try dsimp only); (first | exact o9 HO2.out (Below.refl _ _) | exact o9 HO2.out (Below.drew (Below.refl _ _)) | ((try go_split_ands); exact o9 HO2.out (below_step (by assumption) b15)) | ((try go_split_ands); exact o9 HO2.out (below_step (by assumption) b11)) | ((try go_split_ands); exact o9 HO2.out (below_step (by assumption) b14)) | ((try go_split_ands); exact o9 HO2.out (below_step (by assumption) b8))))
          clear hK K
          try clear hSx
          have hSx := hSy
          clear hSy
          (try simp only [Act.put, List.setIfInBounds_toArray, List.set_cons_zero, List.set_cons_succ])
          refine wpAnyH_take (i := 4) (oi := ?o4) (v := ?v4) ?ho4 (by kernel_rfl) (by kernel_rfl) (by kernel_rfl) ?hQ4 (Or.inl ⟨?hw4, ?hy4⟩) (by assumption) ?_
          case ho4 => (simp only [List.getElem?_toArray, List.getElem?_cons_succ, List.getElem?_cons_zero]; try rfl)
          case hQ4 => exact fun _ _ _ h => h
          case hw4 => rfl
          case hy4 => (intro w hSw; (try dsimp only at hSw); go_simp; (first | done | (with_reducible rfl)))
          (try simp only [Act.put, List.setIfInBounds_toArray, List.set_cons_zero, List.set_cons_succ])
          refine wpAnyH_take (i := 5) (oi := ?o5) (v := ?v5) ?ho5 (by kernel_rfl) (by kernel_rfl) (by kernel_rfl) ?hQ5 (Or.inl ⟨?hw5, ?hy5⟩) (by assumption) ?_
          case ho5 => (simp only [List.getElem?_toArray, List.getElem?_cons_succ, List.getElem?_cons_zero]; try rfl)
          case hQ5 => exact fun _ _ _ h => h
          case hw5 => rfl
          case hy5 => (intro w hSw; (try dsimp only at hSw); go_simp; (first | done | (with_reducible rfl)))
          (try simp only [Act.put, List.setIfInBounds_toArray, List.set_cons_zero, List.set_cons_succ])
          refine wpAnyH_take (i := 6) (oi := ?o6) (v := ?v6) ?ho6 (by kernel_rfl) (by kernel_rfl) (by kernel_rfl) ?hQ6 (Or.inl ⟨?hw6, ?hy6⟩) (by assumption) ?_
          case ho6 => (simp only [List.getElem?_toArray, List.getElem?_cons_succ, List.getElem?_cons_zero]; try rfl)
          case hQ6 => exact fun _ _ _ h => h
          case hw6 => rfl
          case hy6 => (intro w hSw; (try dsimp only at hSw); go_simp; (first | done | (with_reducible rfl)))
          (try simp only [Act.put, List.setIfInBounds_toArray, List.set_cons_zero, List.set_cons_succ])
          refine wpAnyH_take (i := 8) (oi := ?o8) (v := ?v8) ?ho8 (by kernel_rfl) (by kernel_rfl) (by kernel_rfl) ?hQ8 (Or.inl ⟨?hw8, ?hy8⟩) (by assumption) ?_
          case ho8 => (simp only [List.getElem?_toArray, List.getElem?_cons_succ, List.getElem?_cons_zero]; try rfl)
          case hQ8 => exact fun _ _ _ h => h
          case hw8 => rfl
          case hy8 => (intro w hSw; (try dsimp only at hSw); go_simp; (first | done | (with_reducible rfl)))
          (try simp only [Act.put, List.setIfInBounds_toArray, List.set_cons_zero, List.set_cons_succ])
          refine wpAnyH_ready (rs := [7]) (by kernel_rfl) (by simp) ?_
          refine AllReadyH.cons (i := 7) (o := ?o7) ?ho7 (fun K hK => ?_) AllReadyH.nil
          case ho7 => (simp only [List.getElem?_toArray, List.getElem?_cons_succ, List.getElem?_cons_zero]; try rfl)
          go_simp
          (first | (go_at_call 8; (try go_split_ands); (with_reducible refine (HR8.out _ (by assumption)).mono ?_); rintro e wn ⟨rfl, b8⟩) | (go_at_call 14; (try go_split_ands); (with_reducible refine (HR14.out _ (by assumption)).mono ?_); rintro e wn ⟨rfl, b14⟩) | (go_at_call 11; (try go_split_ands); (with_reducible refine (HR11.out _ (by assumption)).mono ?_); rintro e wn ⟨rfl, b11⟩) | (go_at_call 15; (try go_split_ands); (with_reducible refine (HR15.out _ (by assumption)).mono ?_); rintro e wn ⟨rfl, b15⟩))
          refine hK.out _ _ ?kp7 (fun hSy => ?_)
          case kp7 => ((try dsimp only); (first | exact o9 HO2.out (Below.refl _ _) | exact o9 HO2.out (Below.drew (Below.refl _ _)) | ((try go_split_ands); exact o9 HO2.out (below_step (by assumption) b15)) | ((try go_split_ands); exact o9 HO2.out (below_step (by assumption) b11)) | ((try go_split_ands); exact o9 HO2.out (below_step (by assumption) b14)) | ((try go_split_ands); exact o9 HO2.out (below_step (by assumption) b8))))
          clear hK K
          try clear hSx
          have hSx := hSy
          clear hSy
          (try simp only [Act.put, List.setIfInBounds_toArray, List.set_cons_zero, List.set_cons_succ])
          refine wpAnyH_ready (rs := [9]) (by kernel_rfl) (by simp) ?_
          refine AllReadyH.cons (i := 9) (o := ?o9) ?ho9 (fun K hK => ?_) AllReadyH.nil
          case ho9 => (simp only [List.getElem?_toArray, List.getElem?_cons_succ, List.getElem?_cons_zero]; try rfl)
          go_simp
          (first | (go_at_call 8; (try go_split_ands); (with_reducible refine (HR8.out _ (by assumption)).mono ?_); rintro e wn ⟨rfl, b8⟩) | (go_at_call 14; (try go_split_ands); (with_reducible refine (HR14.out _ (by assumption)).mono ?_); rintro e wn ⟨rfl, b14⟩) | (go_at_call 11; (try go_split_ands); (with_reducible refine (HR11.out _ (by assumption)).mono ?_); rintro e wn ⟨rfl, b11⟩) | (go_at_call 15; (try go_split_ands); (with_reducible refine (HR15.out _ (by assumption)).mono ?_); rintro e wn ⟨rfl, b15⟩))
          refine hK.out _ _ ?kp9 (fun hSy => ?_)
          case kp9 => ((try dsimp only); (first | exact o9 HO2.out (Below.refl _ _) | exact o9 HO2.out (Below.drew (Below.refl _ _)) | ((try go_split_ands); exact o9 HO2.out (below_step (by assumption) b15)) | ((try go_split_ands); exact o9 HO2.out (below_step (by assumption) b11)) | ((try go_split_ands); exact o9 HO2.out (below_step (by assumption) b14)) | ((try go_split_ands); exact o9 HO2.out (below_step (by assumption) b8))))
          clear hK K
          try clear hSx
          have hSx := hSy
          clear hSy
          (try simp only [Act.put, List.setIfInBounds_toArray, List.set_cons_zero, List.set_cons_succ])
          first | (refine wpAnyH_take (i := 10) (oi := ?o10) (v := ?v10) ?ho10 (by kernel_rfl) (by kernel_rfl) (by kernel_rfl) ?hQ10 (Or.inl ⟨?hw10, ?hy10⟩) (by assumption) ?_; (case ho10 => (simp only [List.getElem?_toArray, List.getElem?_cons_succ, List.getElem?_cons_zero]; try rfl)); (case hQ10 => exact fun _ _ _ h => h); (case hw10 => rfl); (case hy10 => (intro w hSw; (try dsimp only at hSw); go_simp; (first | done | (with_reducible rfl)))); (try simp only [Act.put, List.setIfInBounds_toArray, List.set_cons_zero, List.set_cons_succ])) | (refine wpAnyH_ready (rs := [10]) (by kernel_rfl) (by simp) ?_; refine AllReadyH.cons (i := 10) (o := ?o10) ?ho10 (fun K hK => ?_) AllReadyH.nil; (case ho10 => (simp only [List.getElem?_toArray, List.getElem?_cons_succ, List.getElem?_cons_zero]; try rfl)); go_simp; refine hK.out _ _ hSx (fun hSy => ?_); clear hK K; try clear hSx; have hSx := hSy; clear hSy; (try simp only [Act.put, List.setIfInBounds_toArray, List.set_cons_zero, List.set_cons_succ]))
          first | (refine wpAnyH_take (i := 11) (oi := ?o11) (v := ?v11) ?ho11 (by kernel_rfl) (by kernel_rfl) (by kernel_rfl) ?hQ11 (Or.inl ⟨?hw11, ?hy11⟩) (by assumption) ?_; (case ho11 => (simp only [List.getElem?_toArray, List.getElem?_cons_succ, List.getElem?_cons_zero]; try rfl)); (case hQ11 => exact fun _ _ _ h => h); (case hw11 => rfl); (case hy11 => (intro w hSw; (try dsimp only at hSw); go_simp; (first | done | (with_reducible rfl)))); (try simp only [Act.put, List.setIfInBounds_toArray, List.set_cons_zero, List.set_cons_succ])) | (refine wpAnyH_ready (rs := [11]) (by kernel_rfl) (by simp) ?_; refine AllReadyH.cons (i := 11) (o := ?o11) ?ho11 (fun K hK => ?_) AllReadyH.nil; (case ho11 => (simp only [List.getElem?_toArray, List.getElem?_cons_succ, List.getElem?_cons_zero]; try rfl)); go_simp; refine hK.out _ _ hSx (fun hSy => ?_); clear hK K; try clear hSx; have hSx := hSy; clear hSy; (try simp only [Act.put, List.setIfInBounds_toArray, List.set_cons_zero, List.set_cons_succ]))
          first | (refine strike_ (i := 12) (oi := ?o12) ?ho12 (by kernel_rfl) (by kernel_rfl) (by kernel_rfl) ?hQ12 ?hw12 (by assumption) ?_; (case ho12 => (simp only [List.getElem?_toArray, List.getElem?_cons_succ, List.getElem?_cons_zero]; try rfl)); (case hQ12 => exact fun _ _ _ h => h); (case hw12 => rfl); (try simp only [Act.put, List.setIfInBounds_toArray, List.set_cons_zero, List.set_cons_succ])) | (refine wpAnyH_take (i := 12) (oi := ?o12) (v := ?v12) ?ho12 (by kernel_rfl) (by kernel_rfl) (by kernel_rfl) ?hQ12 (Or.inl ⟨?hw12, ?hy12⟩) (by assumption) ?_; (case ho12 => (simp only [List.getElem?_toArray, List.getElem?_cons_succ, List.getElem?_cons_zero]; try rfl)); (case hQ12 => exact fun _ _ _ h => h); (case hw12 => rfl); (case hy12 => (intro w hSw; (try dsimp only at hSw); go_simp; (first | done | (with_reducible rfl)))); (try simp only [Act.put, List.setIfInBounds_toArray, List.set_cons_zero, List.set_cons_succ])) | (refine wpAnyH_ready (rs := [12]) (by kernel_rfl) (by simp) ?_; refine AllReadyH.cons (i := 12) (o := ?o12) ?ho12 (fun K hK => ?_) AllReadyH.nil; (case ho12 => (simp only [List.getElem?_toArray, List.getElem?_cons_succ, List.getElem?_cons_zero]; try rfl)); go_simp; refine hK.out _ _ hSx (fun hSy => ?_); clear hK K; try clear hSx; have hSx := hSy; clear hSy; (try simp only [Act.put, List.setIfInBounds_toArray, List.set_cons_zero, List.set_cons_succ]))
          first | (refine strike_ (i := 13) (oi := ?o13) ?ho13 (by kernel_rfl) (by kernel_rfl) (by kernel_rfl) ?hQ13 ?hw13 (by assumption) ?_; (case ho13 => (simp only [List.getElem?_toArray, List.getElem?_cons_succ, List.getElem?_cons_zero]; try rfl)); (case hQ13 => exact fun _ _ _ h => h); (case hw13 => rfl); (try simp only [Act.put, List.setIfInBounds_toArray, List.set_cons_zero, List.set_cons_succ])) | (refine wpAnyH_take (i := 13) (oi := ?o13) (v := ?v13) ?ho13 (by kernel_rfl) (by kernel_rfl) (by kernel_rfl) ?hQ13 (Or.inl ⟨?hw13, ?hy13⟩) (by assumption) ?_; (case ho13 => (simp only [List.getElem?_toArray, List.getElem?_cons_succ, List.getElem?_cons_zero]; try rfl)); (case hQ13 => exact fun _ _ _ h => h); (case hw13 => rfl); (case hy13 => (intro w hSw; (try dsimp only at hSw); go_simp; (first | done | (with_reducible rfl)))); (try simp only [Act.put, List.setIfInBounds_toArray, List.set_cons_zero, List.set_cons_succ])) | (refine wpAnyH_ready (rs := [13]) (by kernel_rfl) (by simp) ?_; refine AllReadyH.cons (i := 13) (o := ?o13) ?ho13 (fun K hK => ?_) AllReadyH.nil; (case ho13 => (simp only [List.getElem?_toArray, List.getElem?_cons_succ, List.getElem?_cons_zero]; try rfl)); go_simp; refine hK.out _ _ hSx (fun hSy => ?_); clear hK K; try clear hSx; have hSx := hSy; clear hSy; (try simp only [Act.put, List.setIfInBounds_toArray, List.set_cons_zero, List.set_cons_succ]))
          first | (refine strike_ (i := 14) (oi := ?o14) ?ho14 (by kernel_rfl) (by kernel_rfl) (by kernel_rfl) ?hQ14 ?hw14 (by assumption) ?_; (case ho14 => (simp only [List.getElem?_toArray, List.getElem?_cons_succ, List.getElem?_cons_zero]; try rfl)); (case hQ14 => exact fun _ _ _ h => h); (case hw14 => rfl); (try simp only [Act.put, List.setIfInBounds_toArray, List.set_cons_zero, List.set_cons_succ])) | (refine wpAnyH_take (i := 14) (oi := ?o14) (v := ?v14) ?ho14 (by kernel_rfl) (by kernel_rfl) (by kernel_rfl) ?hQ14 (Or.inl ⟨?hw14, ?hy14⟩) (by assumption) ?_; (case ho14 => (simp only [List.getElem?_toArray, List.getElem?_cons_succ, List.getElem?_cons_zero]; try rfl)); (case hQ14 => exact fun _ _ _ h => h); (case hw14 => rfl); (case hy14 => (intro w hSw; (try dsimp only at hSw); go_simp; (first | done | (with_reducible rfl)))); (try simp only [Act.put, List.setIfInBounds_toArray, List.set_cons_zero, List.set_cons_succ])) | (refine wpAnyH_ready (rs := [14]) (by kernel_rfl) (by simp) ?_; refine AllReadyH.cons (i := 14) (o := ?o14) ?ho14 (fun K hK => ?_) AllReadyH.nil; (case ho14 => (simp only [List.getElem?_toArray, List.getElem?_cons_succ, List.getElem?_cons_zero]; try rfl)); go_simp; refine hK.out _ _ hSx (fun hSy => ?_); clear hK K; try clear hSx; have hSx := hSy; clear hSy; (try simp only [Act.put, List.setIfInBounds_toArray, List.set_cons_zero, List.set_cons_succ]))
          first | (refine wpAnyH_take (i := 15) (oi := ?o15) (v := ?v15) ?ho15 (by kernel_rfl) (by kernel_rfl) (by kernel_rfl) ?hQ15 (Or.inl ⟨?hw15, ?hy15⟩) (by assumption) ?_; (case ho15 => (simp only [List.getElem?_toArray, List.getElem?_cons_succ, List.getElem?_cons_zero]; try rfl)); (case hQ15 => exact fun _ _ _ h => h); (case hw15 => rfl); (case hy15 => (intro w hSw; (try dsimp only at hSw); go_simp; (first | done | (with_reducible rfl)))); (try simp only [Act.put, List.setIfInBounds_toArray, List.set_cons_zero, List.set_cons_succ])) | (refine wpAnyH_ready (rs := [15]) (by kernel_rfl) (by simp) ?_; refine AllReadyH.cons (i := 15) (o := ?o15) ?ho15 (fun K hK => ?_) AllReadyH.nil; (case ho15 => (simp only [List.getElem?_toArray, List.getElem?_cons_succ, List.getElem?_cons_zero]; try rfl)); go_simp; refine hK.out _ _ hSx (fun hSy => ?_); clear hK K; try clear hSx; have hSx := hSy; clear hSy; (try simp only [Act.put, List.setIfInBounds_toArray, List.set_cons_zero, List.set_cons_succ]))
          first | (refine wpAnyH_take (i := 16) (oi := ?o16) (v := ?v16) ?ho16 (by kernel_rfl) (by kernel_rfl) (by kernel_rfl) ?hQ16 (Or.inl ⟨?hw16, ?hy16⟩) (by assumption) ?_; (case ho16 => (simp only [List.getElem?_toArray, List.getElem?_cons_succ, List.getElem?_cons_zero]; try rfl)); (case hQ16 => exact fun _ _ _ h => h); (case hw16 => rfl); (case hy16 => (intro w hSw; (try dsimp only at hSw); go_simp; (first | done | (with_reducible rfl)))); (try simp only [Act.put, List.setIfInBounds_toArray, List.set_cons_zero, List.set_cons_succ])) | (refine wpAnyH_ready (rs := [16]) (by kernel_rfl) (by simp) ?_; refine AllReadyH.cons (i := 16) (o := ?o16) ?ho16 (fun K hK => ?_) AllReadyH.nil; (case ho16 => (simp only [List.getElem?_toArray, List.getElem?_cons_succ, List.getElem?_cons_zero]; try rfl)); go_simp; refine hK.out _ _ hSx (fun hSy => ?_); clear hK K; try clear hSx; have hSx := hSy; clear hSy; (try simp only [Act.put, List.setIfInBounds_toArray, List.set_cons_zero, List.set_cons_succ]))
          first | (refine strike_ (i := 17) (oi := ?o17) ?ho17 (by kernel_rfl) (by kernel_rfl) (by kernel_rfl) ?hQ17 ?hw17 (by assumption) ?_; (case ho17 => (simp only [List.getElem?_toArray, List.getElem?_cons_succ, List.getElem?_cons_zero]; try rfl)); (case hQ17 => exact fun _ _ _ h => h); (case hw17 => rfl); (try simp only [Act.put, List.setIfInBounds_toArray, List.set_cons_zero, List.set_cons_succ])) | (refine wpAnyH_take (i := 17) (oi := ?o17) (v := ?v17) ?ho17 (by kernel_rfl) (by kernel_rfl) (by kernel_rfl) ?hQ17 (Or.inl ⟨?hw17, ?hy17⟩) (by assumption) ?_; (case ho17 => (simp only [List.getElem?_toArray, List.getElem?_cons_succ, List.getElem?_cons_zero]; try rfl)); (case hQ17 => exact fun _ _ _ h => h); (case hw17 => rfl); (case hy17 => (intro w hSw; (try dsimp only at hSw); go_simp; (first | done | (with_reducible rfl)))); (try simp only [Act.put, List.setIfInBounds_toArray, List.set_cons_zero, List.set_cons_succ])) | (refine wpAnyH_ready (rs := [17]) (by kernel_rfl) (by simp) ?_; refine AllReadyH.cons (i := 17) (o := ?o17) ?ho17 (fun K hK => ?_) AllReadyH.nil; (case ho17 => (simp only [List.getElem?_toArray, List.getElem?_cons_succ, List.getElem?_cons_zero]; try rfl)); go_simp; refine hK.out _ _ hSx (fun hSy => ?_); clear hK K; try clear hSx; have hSx := hSy; clear hSy; (try simp only [Act.put, List.setIfInBounds_toArray, List.set_cons_zero, List.set_cons_succ]))
          first | (refine strike_ (i := 18) (oi := ?o18) ?ho18 (by kernel_rfl) (by kernel_rfl) (by kernel_rfl) ?hQ18 ?hw18 (by assumption) ?_; (case ho18 => (simp only [List.getElem?_toArray, List.getElem?_cons_succ, List.getElem?_cons_zero]; try rfl)); (case hQ18 => exact fun _ _ _ h => h); (case hw18 => rfl); (try simp only [Act.put, List.setIfInBounds_toArray, List.set_cons_zero, List.set_cons_succ])) | (refine wpAnyH_take (i := 18) (oi := ?o18) (v := ?v18) ?ho18 (by kernel_rfl) (by kernel_rfl) (by kernel_rfl) ?hQ18 (Or.inl ⟨?hw18, ?hy18⟩) (by assumption) ?_; (case ho18 => (simp only [List.getElem?_toArray, List.getElem?_cons_succ, List.getElem?_cons_zero]; try rfl)); (case hQ18 => exact fun _ _ _ h => h); (case hw18 => rfl); (case hy18 => (intro w hSw; (try dsimp only at hSw); go_simp; (first | done | (with_reducible rfl)))); (try simp only [Act.put, List.setIfInBounds_toArray, List.set_cons_zero, List.set_cons_succ])) | (refine wpAnyH_ready (rs := [18]) (by kernel_rfl) (by simp) ?_; refine AllReadyH.cons (i := 18) (o := ?o18) ?ho18 (fun K hK => ?_) AllReadyH.nil; (case ho18 => (simp only [List.getElem?_toArray, List.getElem?_cons_succ, List.getElem?_cons_zero]; try rfl)); go_simp; refine hK.out _ _ hSx (fun hSy => ?_); clear hK K; try clear hSx; have hSx := hSy; clear hSy; (try simp only [Act.put, List.setIfInBounds_toArray, List.set_cons_zero, List.set_cons_succ]))
          first | (refine strike_ (i := 19) (oi := ?o19) ?ho19 (by kernel_rfl) (by kernel_rfl) (by kernel_rfl) ?hQ19 ?hw19 (by assumption) ?_; (case ho19 => (simp only [List.getElem?_toArray, List.getElem?_cons_succ, List.getElem?_cons_zero]; try rfl)); (case hQ19 => exact fun _ _ _ h => h); (case hw19 => rfl); (try simp only [Act.put, List.setIfInBounds_toArray, List.set_cons_zero, List.set_cons_succ])) | (refine wpAnyH_take (i := 19) (oi := ?o19) (v := ?v19) ?ho19 (by kernel_rfl) (by kernel_rfl) (by kernel_rfl) ?hQ19 (Or.inl ⟨?hw19, ?hy19⟩) (by assumption) ?_; (case ho19 => (simp only [List.getElem?_toArray, List.getElem?_cons_succ, List.getElem?_cons_zero]; try rfl)); (case hQ19 => exact fun _ _ _ h => h); (case hw19 => rfl); (case hy19 => (intro w hSw; (try dsimp only at hSw); go_simp; (first | done | (with_reducible rfl)))); (try simp only [Act.put, List.setIfInBounds_toArray, List.set_cons_zero, List.set_cons_succ])) | (refine wpAnyH_ready (rs := [19]) (by kernel_rfl) (by simp) ?_; refine AllReadyH.cons (i := 19) (o := ?o19) ?ho19 (fun K hK => ?_) AllReadyH.nil; (case ho19 => (simp only [List.getElem?_toArray, List.getElem?_cons_succ, List.getElem?_cons_zero]; try rfl)); go_simp; refine hK.out _ _ hSx (fun hSy => ?_); clear hK K; try clear hSx; have hSx := hSy; clear hSy; (try simp only [Act.put, List.setIfInBounds_toArray, List.set_cons_zero, List.set_cons_succ]))
          first | (refine wpAnyH_take (i := 20) (oi := ?o20) (v := ?v20) ?ho20 (by kernel_rfl) (by kernel_rfl) (by kernel_rfl) ?hQ20 (Or.inl ⟨?hw20, ?hy20⟩) (by assumption) ?_; (case ho20 => (simp only [List.getElem?_toArray, List.getElem?_cons_succ, List.getElem?_cons_zero]; try rfl)); (case hQ20 => exact fun _ _ _ h => h); (case hw20 => rfl); (case hy20 => (intro w hSw; (try dsimp only at hSw); go_simp; (first | done | (with_reducible rfl)))); (try simp only [Act.put, List.setIfInBounds_toArray, List.set_cons_zero, List.set_cons_succ])) | (refine wpAnyH_ready (rs := [20]) (by kernel_rfl) (by simp) ?_; refine AllReadyH.cons (i := 20) (o := ?o20) ?ho20 (fun K hK => ?_) AllReadyH.nil; (case ho20 => (simp only [List.getElem?_toArray, List.getElem?_cons_succ, List.getElem?_cons_zero]; try rfl)); go_simp; refine hK.out _ _ hSx (fun hSy => ?_); clear hK K; try clear hSx; have hSx := hSy; clear hSy; (try simp only [Act.put, List.setIfInBounds_toArray, List.set_cons_zero, List.set_cons_succ]))
          first | (refine wpAnyH_take (i := 21) (oi := ?o21) (v := ?v21) ?ho21 (by kernel_rfl) (by kernel_rfl) (by kernel_rfl) ?hQ21 (Or.inl ⟨?hw21, ?hy21⟩) (by assumption) ?_; (case ho21 => (simp only [List.getElem?_toArray, List.getElem?_cons_succ, List.getElem?_cons_zero]; try rfl)); (case hQ21 => exact fun _ _ _ h => h); (case hw21 => rfl); (case hy21 => (intro w hSw; (try dsimp only at hSw); go_simp; (first | done | (with_reducible rfl)))); (try simp only [Act.put, List.setIfInBounds_toArray, List.set_cons_zero, List.set_cons_succ])) | (refine wpAnyH_ready (rs := [21]) (by kernel_rfl) (by simp) ?_; refine AllReadyH.cons (i := 21) (o := ?o21) ?ho21 (fun K hK => ?_) AllReadyH.nil; (case ho21 => (simp only [List.getElem?_toArray, List.getElem?_cons_succ, List.getElem?_cons_zero]; try rfl)); go_simp; refine hK.out _ _ hSx (fun hSy => ?_); clear hK K; try clear hSx; have hSx := hSy; clear hSy; (try simp only [Act.put, List.setIfInBounds_toArray, List.set_cons_zero, List.set_cons_succ]))
          first | (refine strike_ (i := 22) (oi := ?o22) ?ho22 (by kernel_rfl) (by kernel_rfl) (by kernel_rfl) ?hQ22 ?hw22 (by assumption) ?_; (case ho22 => (simp only [List.getElem?_toArray, List.getElem?_cons_succ, List.getElem?_cons_zero]; try rfl)); (case hQ22 => exact fun _ _ _ h => h); (case hw22 => rfl); (try simp only [Act.put, List.setIfInBounds_toArray, List.set_cons_zero, List.set_cons_succ])) | (refine wpAnyH_take (i := 22) (oi := ?o22) (v := ?v22) ?ho22 (by kernel_rfl) (by kernel_rfl) (by kernel_rfl) ?hQ22 (Or.inl ⟨?hw22, ?hy22⟩) (by assumption) ?_; (case ho22 => (simp only [List.getElem?_toArray, List.getElem?_cons_succ, List.getElem?_cons_zero]; try rfl)); (case hQ22 => exact fun _ _ _ h => h); (case hw22 => rfl); (case hy22 => (intro w hSw; (try dsimp only at hSw); go_simp; (first | done | (with_reducible rfl)))); (try simp only [Act.put, List.setIfInBounds_toArray, List.set_cons_zero, List.set_cons_succ])) | (refine wpAnyH_ready (rs := [22]) (by kernel_rfl) (by simp) ?_; refine AllReadyH.cons (i := 22) (o := ?o22) ?ho22 (fun K hK => ?_) AllReadyH.nil; (case ho22 => (simp only [List.getElem?_toArray, List.getElem?_cons_succ, List.getElem?_cons_zero]; try rfl)); go_simp; refine hK.out _ _ hSx (fun hSy => ?_); clear hK K; try clear hSx; have hSx := hSy; clear hSy; (try simp only [Act.put, List.setIfInBounds_toArray, List.set_cons_zero, List.set_cons_succ]))
          first | (refine strike_ (i := 23) (oi := ?o23) ?ho23 (by kernel_rfl) (by kernel_rfl) (by kernel_rfl) ?hQ23 ?hw23 (by assumption) ?_; (case ho23 => (simp only [List.getElem?_toArray, List.getElem?_cons_succ, List.getElem?_cons_zero]; try rfl)); (case hQ23 => exact fun _ _ _ h => h); (case hw23 => rfl); (try simp only [Act.put, List.setIfInBounds_toArray, List.set_cons_zero, List.set_cons_succ])) | (refine wpAnyH_take (i := 23) (oi := ?o23) (v := ?v23) ?ho23 (by kernel_rfl) (by kernel_rfl) (by kernel_rfl) ?hQ23 (Or.inl ⟨?hw23, ?hy23⟩) (by assumption) ?_; (case ho23 => (simp only [List.getElem?_toArray, List.getElem?_cons_succ, List.getElem?_cons_zero]; try rfl)); (case hQ23 => exact fun _ _ _ h => h); (case hw23 => rfl); (case hy23 => (intro w hSw; (try dsimp only at hSw); go_simp; (first | done | (with_reducible rfl)))); (try simp only [Act.put, List.setIfInBounds_toArray, List.set_cons_zero, List.set_cons_succ])) | (refine wpAnyH_ready (rs := [23]) (by kernel_rfl) (by simp) ?_; refine AllReadyH.cons (i := 23) (o := ?o23) ?ho23 (fun K hK => ?_) AllReadyH.nil; (case ho23 => (simp only [List.getElem?_toArray, List.getElem?_cons_succ, List.getElem?_cons_zero]; try rfl)); go_simp; refine hK.out _ _ hSx (fun hSy => ?_); clear hK K; try clear hSx; have hSx := hSy; clear hSy; (try simp only [Act.put, List.setIfInBounds_toArray, List.set_cons_zero, List.set_cons_succ]))
          first | (refine strike_ (i := 24) (oi := ?o24) ?ho24 (by kernel_rfl) (by kernel_rfl) (by kernel_rfl) ?hQ24 ?hw24 (by assumption) ?_; (case ho24 => (simp only [List.getElem?_toArray, List.getElem?_cons_succ, List.getElem?_cons_zero]; try rfl)); (case hQ24 => exact fun _ _ _ h => h); (case hw24 => rfl); (try simp only [Act.put, List.setIfInBounds_toArray, List.set_cons_zero, List.set_cons_succ])) | (refine wpAnyH_take (i := 24) (oi := ?o24) (v := ?v24) ?ho24 (by kernel_rfl) (by kernel_rfl) (by kernel_rfl) ?hQ24 (Or.inl ⟨?hw24, ?hy24⟩) (by assumption) ?_; (case ho24 => (simp only [List.getElem?_toArray, List.getElem?_cons_succ, List.getElem?_cons_zero]; try rfl)); (case hQ24 => exact fun _ _ _ h => h); (case hw24 => rfl); (case hy24 => (intro w hSw; (try dsimp only at hSw); go_simp; (first | done | (with_reducible rfl)))); (try simp only [Act.put, List.setIfInBounds_toArray, List.set_cons_zero, List.set_cons_succ])) | (refine wpAnyH_ready (rs := [24]) (by kernel_rfl) (by simp) ?_; refine AllReadyH.cons (i := 24) (o := ?o24) ?ho24 (fun K hK => ?_) AllReadyH.nil; (case ho24 => (simp only [List.getElem?_toArray, List.getElem?_cons_succ, List.getElem?_cons_zero]; try rfl)); go_simp; refine hK.out _ _ hSx (fun hSy => ?_); clear hK K; try clear hSx; have hSx := hSy; clear hSy; (try simp only [Act.put, List.setIfInBounds_toArray, List.set_cons_zero, List.set_cons_succ]))
          first | (refine wpAnyH_take (i := 25) (oi := ?o25) (v := ?v25) ?ho25 (by kernel_rfl) (by kernel_rfl) (by kernel_rfl) ?hQ25 (Or.inl ⟨?hw25, ?hy25⟩) (by assumption) ?_; (case ho25 => (simp only [List.getElem?_toArray, List.getElem?_cons_succ, List.getElem?_cons_zero]; try rfl)); (case hQ25 => exact fun _ _ _ h => h); (case hw25 => rfl); (case hy25 => (intro w hSw; (try dsimp only at hSw); go_simp; (first | done | (with_reducible rfl)))); (try simp only [Act.put, List.setIfInBounds_toArray, List.set_cons_zero, List.set_cons_succ])) | (refine wpAnyH_ready (rs := [25]) (by kernel_rfl) (by simp) ?_; refine AllReadyH.cons (i := 25) (o := ?o25) ?ho25 (fun K hK => ?_) AllReadyH.nil; (case ho25 => (simp only [List.getElem?_toArray, List.getElem?_cons_succ, List.getElem?_cons_zero]; try rfl)); go_simp; refine hK.out _ _ hSx (fun hSy => ?_); clear hK K; try clear hSx; have hSx := hSy; clear hSy; (try simp only [Act.put, List.setIfInBounds_toArray, List.set_cons_zero, List.set_cons_succ]))
          first | (refine wpAnyH_take (i := 26) (oi := ?o26) (v := ?v26) ?ho26 (by kernel_rfl) (by kernel_rfl) (by kernel_rfl) ?hQ26 (Or.inl ⟨?hw26, ?hy26⟩) (by assumption) ?_; (case ho26 => (simp only [List.getElem?_toArray, List.getElem?_cons_succ, List.getElem?_cons_zero]; try rfl)); (case hQ26 => exact fun _ _ _ h => h); (case hw26 => rfl); (case hy26 => (intro w hSw; (try dsimp only at hSw); go_simp; (first | done | (with_reducible rfl)))); (try simp only [Act.put, List.setIfInBounds_toArray, List.set_cons_zero, List.set_cons_succ])) | (refine wpAnyH_ready (rs := [26]) (by kernel_rfl) (by simp) ?_; refine AllReadyH.cons (i := 26) (o := ?o26) ?ho26 (fun K hK => ?_) AllReadyH.nil; (case ho26 => (simp only [List.getElem?_toArray, List.getElem?_cons_succ, List.getElem?_cons_zero]; try rfl)); go_simp; refine hK.out _ _ hSx (fun hSy => ?_); clear hK K; try clear hSx; have hSx := hSy; clear hSy; (try simp only [Act.put, List.setIfInBounds_toArray, List.set_cons_zero, List.set_cons_succ]))
          first | (refine strike_ (i := 27) (oi := ?o27) ?ho27 (by kernel_rfl) (by kernel_rfl) (by kernel_rfl) ?hQ27 ?hw27 (by assumption) ?_; (case ho27 => (simp only [List.getElem?_toArray, List.getElem?_cons_succ, List.getElem?_cons_zero]; try rfl)); (case hQ27 => exact fun _ _ _ h => h); (case hw27 => rfl); (try simp only [Act.put, List.setIfInBounds_toArray, List.set_cons_zero, List.set_cons_succ])) | (refine wpAnyH_take (i := 27) (oi := ?o27) (v := ?v27) ?ho27 (by kernel_rfl) (by kernel_rfl) (by kernel_rfl) ?hQ27 (Or.inl ⟨?hw27, ?hy27⟩) (by assumption) ?_; (case ho27 => (simp only [List.getElem?_toArray, List.getElem?_cons_succ, List.getElem?_cons_zero]; try rfl)); (case hQ27 => exact fun _ _ _ h => h); (case hw27 => rfl); (case hy27 => (intro w hSw; (try dsimp only at hSw); go_simp; (first | done | (with_reducible rfl)))); (try simp only [Act.put, List.setIfInBounds_toArray, List.set_cons_zero, List.set_cons_succ])) | (refine wpAnyH_ready (rs := [27]) (by kernel_rfl) (by simp) ?_; refine AllReadyH.cons (i := 27) (o := ?o27) ?ho27 (fun K hK => ?_) AllReadyH.nil; (case ho27 => (simp only [List.getElem?_toArray, List.getElem?_cons_succ, List.getElem?_cons_zero]; try rfl)); go_simp; refine hK.out _ _ hSx (fun hSy => ?_); clear hK K; try clear hSx; have hSx := hSy; clear hSy; (try simp only [Act.put, List.setIfInBounds_toArray, List.set_cons_zero, List.set_cons_succ]))
          first | (refine strike_ (i := 28) (oi := ?o28) ?ho28 (by kernel_rfl) (by kernel_rfl) (by kernel_rfl) ?hQ28 ?hw28 (by assumption) ?_; (case ho28 => (simp only [List.getElem?_toArray, List.getElem?_cons_succ, List.getElem?_cons_zero]; try rfl)); (case hQ28 => exact fun _ _ _ h => h); (case hw28 => rfl); (try simp only [Act.put, List.setIfInBounds_toArray, List.set_cons_zero, List.set_cons_succ])) | (refine wpAnyH_take (i := 28) (oi := ?o28) (v := ?v28) ?ho28 (by kernel_rfl) (by kernel_rfl) (by kernel_rfl) ?hQ28 (Or.inl ⟨?hw28, ?hy28⟩) (by assumption) ?_; (case ho28 => (simp only [List.getElem?_toArray, List.getElem?_cons_succ, List.getElem?_cons_zero]; try rfl)); (case hQ28 => exact fun _ _ _ h => h); (case hw28 => rfl); (case hy28 => (intro w hSw; (try dsimp only at hSw); go_simp; (first | done | (with_reducible rfl)))); (try simp only [Act.put, List.setIfInBounds_toArray, List.set_cons_zero, List.set_cons_succ])) | (refine wpAnyH_ready (rs := [28]) (by kernel_rfl) (by simp) ?_; refine AllReadyH.cons (i := 28) (o := ?o28) ?ho28 (fun K hK => ?_) AllReadyH.nil; (case ho28 => (simp only [List.getElem?_toArray, List.getElem?_cons_succ, List.getElem?_cons_zero]; try rfl)); go_simp; refine hK.out _ _ hSx (fun hSy => ?_); clear hK K; try clear hSx; have hSx := hSy; clear hSy; (try simp only [Act.put, List.setIfInBounds_toArray, List.set_cons_zero, List.set_cons_succ]))
          first | (refine strike_ (i := 29) (oi := ?o29) ?ho29 (by kernel_rfl) (by kernel_rfl) (by kernel_rfl) ?hQ29 ?hw29 (by assumption) ?_; (case ho29 => (simp only [List.getElem?_toArray, List.getElem?_cons_succ, List.getElem?_cons_zero]; try rfl)); (case hQ29 => exact fun _ _ _ h => h); (case hw29 => rfl); (try simp only [Act.put, List.setIfInBounds_toArray, List.set_cons_zero, List.set_cons_succ])) | (refine wpAnyH_take (i := 29) (oi := ?o29) (v := ?v29) ?ho29 (by kernel_rfl) (by kernel_rfl) (by kernel_rfl) ?hQ29 (Or.inl ⟨?hw29, ?hy29⟩) (by assumption) ?_; (case ho29 => (simp only [List.getElem?_toArray, List.getElem?_cons_succ, List.getElem?_cons_zero]; try rfl)); (case hQ29 => exact fun _ _ _ h => h); (case hw29 => rfl); (case hy29 => (intro w hSw; (try dsimp only at hSw); go_simp; (first | done | (with_reducible rfl)))); (try simp only [Act.put, List.setIfInBounds_toArray, List.set_cons_zero, List.set_cons_succ])) | (refine wpAnyH_ready (rs := [29]) (by kernel_rfl) (by simp) ?_; refine AllReadyH.cons (i := 29) (o := ?o29) ?ho29 (fun K hK => ?_) AllReadyH.nil; (case ho29 => (simp only [List.getElem?_toArray, List.getElem?_cons_succ, List.getElem?_cons_zero]; try rfl)); go_simp; refine hK.out _ _ hSx (fun hSy => ?_); clear hK K; try clear hSx; have hSx := hSy; clear hSy; (try simp only [Act.put, List.setIfInBounds_toArray, List.set_cons_zero, List.set_cons_succ]))
          first | (refine wpAnyH_take (i := 30) (oi := ?o30) (v := ?v30) ?ho30 (by kernel_rfl) (by kernel_rfl) (by kernel_rfl) ?hQ30 (Or.inl ⟨?hw30, ?hy30⟩) (by assumption) ?_; (case ho30 => (simp only [List.getElem?_toArray, List.getElem?_cons_succ, List.getElem?_cons_zero]; try rfl)); (case hQ30 => exact fun _ _ _ h => h); (case hw30 => rfl); (case hy30 => (intro w hSw; (try dsimp only at hSw); go_simp; (first | done | (with_reducible rfl)))); (try simp only [Act.put, List.setIfInBounds_toArray, List.set_cons_zero, List.set_cons_succ])) | (refine wpAnyH_ready (rs := [30]) (by kernel_rfl) (by simp) ?_; refine AllReadyH.cons (i := 30) (o := ?o30) ?ho30 (fun K hK => ?_) AllReadyH.nil; (case ho30 => (simp only [List.getElem?_toArray, List.getElem?_cons_succ, List.getElem?_cons_zero]; try rfl)); go_simp; refine hK.out _ _ hSx (fun hSy => ?_); clear hK K; try clear hSx; have hSx := hSy; clear hSy; (try simp only [Act.put, List.setIfInBounds_toArray, List.set_cons_zero, List.set_cons_succ]))
          first | (refine wpAnyH_take (i := 31) (oi := ?o31) (v := ?v31) ?ho31 (by kernel_rfl) (by kernel_rfl) (by kernel_rfl) ?hQ31 (Or.inl ⟨?hw31, ?hy31⟩) (by assumption) ?_; (case ho31 => (simp only [List.getElem?_toArray, List.getElem?_cons_succ, List.getElem?_cons_zero]; try rfl)); (case hQ31 => exact fun _ _ _ h => h); (case hw31 => rfl); (case hy31 => (intro w hSw; (try dsimp only at hSw); go_simp; (first | done | (with_reducible rfl)))); (try simp only [Act.put, List.setIfInBounds_toArray, List.set_cons_zero, List.set_cons_succ])) | (refine wpAnyH_ready (rs := [31]) (by kernel_rfl) (by simp) ?_; refine AllReadyH.cons (i := 31) (o := ?o31) ?ho31 (fun K hK => ?_) AllReadyH.nil; (case ho31 => (simp only [List.getElem?_toArray, List.getElem?_cons_succ, List.getElem?_cons_zero]; try rfl)); go_simp; refine hK.out _ _ hSx (fun hSy => ?_); clear hK K; try clear hSx; have hSx := hSy; clear hSy; (try simp only [Act.put, List.setIfInBounds_toArray, List.set_cons_zero, List.set_cons_succ]))
          first | (refine strike_ (i := 32) (oi := ?o32) ?ho32 (by kernel_rfl) (by kernel_rfl) (by kernel_rfl) ?hQ32 ?hw32 (by assumption) ?_; (case ho32 => (simp only [List.getElem?_toArray, List.getElem?_cons_succ, List.getElem?_cons_zero]; try rfl)); (case hQ32 => exact fun _ _ _ h => h); (case hw32 => rfl); (try simp only [Act.put, List.setIfInBounds_toArray, List.set_cons_zero, List.set_cons_succ])) | (refine wpAnyH_take (i := 32) (oi := ?o32) (v := ?v32) ?ho32 (by kernel_rfl) (by kernel_rfl) (by kernel_rfl) ?hQ32 (Or.inl ⟨?hw32, ?hy32⟩) (by assumption) ?_; (case ho32 => (simp only [List.getElem?_toArray, List.getElem?_cons_succ, List.getElem?_cons_zero]; try rfl)); (case hQ32 => exact fun _ _ _ h => h); (case hw32 => rfl); (case hy32 => (intro w hSw; (try dsimp only at hSw); go_simp; (first | done | (with_reducible rfl)))); (try simp only [Act.put, List.setIfInBounds_toArray, List.set_cons_zero, List.set_cons_succ])) | (refine wpAnyH_ready (rs := [32]) (by kernel_rfl) (by simp) ?_; refine AllReadyH.cons (i := 32) (o := ?o32) ?ho32 (fun K hK => ?_) AllReadyH.nil; (case ho32 => (simp only [List.getElem?_toArray, List.getElem?_cons_succ, List.getElem?_cons_zero]; try rfl)); go_simp; refine hK.out _ _ hSx (fun hSy => ?_); clear hK K; try clear hSx; have hSx := hSy; clear hSy; (try simp only [Act.put, List.setIfInBounds_toArray, List.set_cons_zero, List.set_cons_succ]))
          first | (refine strike_ (i := 33) (oi := ?o33) ?ho33 (by kernel_rfl) (by kernel_rfl) (by kernel_rfl) ?hQ33 ?hw33 (by assumption) ?_; (case ho33 => (simp only [List.getElem?_toArray, List.getElem?_cons_succ, List.getElem?_cons_zero]; try rfl)); (case hQ33 => exact fun _ _ _ h => h); (case hw33 => rfl); (try simp only [Act.put, List.setIfInBounds_toArray, List.set_cons_zero, List.set_cons_succ])) | (refine wpAnyH_take (i := 33) (oi := ?o33) (v := ?v33) ?ho33 (by kernel_rfl) (by kernel_rfl) (by kernel_rfl) ?hQ33 (Or.inl ⟨?hw33, ?hy33⟩) (by assumption) ?_; (case ho33 => (simp only [List.getElem?_toArray, List.getElem?_cons_succ, List.getElem?_cons_zero]; try rfl)); (case hQ33 => exact fun _ _ _ h => h); (case hw33 => rfl); (case hy33 => (intro w hSw; (try dsimp only at hSw); go_simp; (first | done | (with_reducible rfl)))); (try simp only [Act.put, List.setIfInBounds_toArray, List.set_cons_zero, List.set_cons_succ])) | (refine wpAnyH_ready (rs := [33]) (by kernel_rfl) (by simp) ?_; refine AllReadyH.cons (i := 33) (o := ?o33) ?ho33 (fun K hK => ?_) AllReadyH.nil; (case ho33 => (simp only [List.getElem?_toArray, List.getElem?_cons_succ, List.getElem?_cons_zero]; try rfl)); go_simp; refine hK.out _ _ hSx (fun hSy => ?_); clear hK K; try clear hSx; have hSx := hSy; clear hSy; (try simp only [Act.put, List.setIfInBounds_toArray, List.set_cons_zero, List.set_cons_succ]))
          first | (refine strike_ (i := 34) (oi := ?o34) ?ho34 (by kernel_rfl) (by kernel_rfl) (by kernel_rfl) ?hQ34 ?hw34 (by assumption) ?_; (case ho34 => (simp only [List.getElem?_toArray, List.getElem?_cons_succ, List.getElem?_cons_zero]; try rfl)); (case hQ34 => exact fun _ _ _ h => h); (case hw34 => rfl); (try simp only [Act.put, List.setIfInBounds_toArray, List.set_cons_zero, List.set_cons_succ])) | (refine wpAnyH_take (i := 34) (oi := ?o34) (v := ?v34) ?ho34 (by kernel_rfl) (by kernel_rfl) (by kernel_rfl) ?hQ34 (Or.inl ⟨?hw34, ?hy34⟩) (by assumption) ?_; (case ho34 => (simp only [List.getElem?_toArray, List.getElem?_cons_succ, List.getElem?_cons_zero]; try rfl)); (case hQ34 => exact fun _ _ _ h => h); (case hw34 => rfl); (case hy34 => (intro w hSw; (try dsimp only at hSw); go_simp; (first | done | (with_reducible rfl)))); (try simp only [Act.put, List.setIfInBounds_toArray, List.set_cons_zero, List.set_cons_succ])) | (refine wpAnyH_ready (rs := [34]) (by kernel_rfl) (by simp) ?_; refine AllReadyH.cons (i := 34) (o := ?o34) ?ho34 (fun K hK => ?_) AllReadyH.nil; (case ho34 => (simp only [List.getElem?_toArray, List.getElem?_cons_succ, List.getElem?_cons_zero]; try rfl)); go_simp; refine hK.out _ _ hSx (fun hSy => ?_); clear hK K; try clear hSx; have hSx := hSy; clear hSy; (try simp only [Act.put, List.setIfInBounds_toArray, List.set_cons_zero, List.set_cons_succ]))
          first | (refine wpAnyH_take (i := 35) (oi := ?o35) (v := ?v35) ?ho35 (by kernel_rfl) (by kernel_rfl) (by kernel_rfl) ?hQ35 (Or.inl ⟨?hw35, ?hy35⟩) (by assumption) ?_; (case ho35 => (simp only [List.getElem?_toArray, List.getElem?_cons_succ, List.getElem?_cons_zero]; try rfl)); (case hQ35 => exact fun _ _ _ h => h); (case hw35 => rfl); (case hy35 => (intro w hSw; (try dsimp only at hSw); go_simp; (first | done | (with_reducible rfl)))); (try simp only [Act.put, List.setIfInBounds_toArray, List.set_cons_zero, List.set_cons_succ])) | (refine wpAnyH_ready (rs := [35]) (by kernel_rfl) (by simp) ?_; refine AllReadyH.cons (i := 35) (o := ?o35) ?ho35 (fun K hK => ?_) AllReadyH.nil; (case ho35 => (simp only [List.getElem?_toArray, List.getElem?_cons_succ, List.getElem?_cons_zero]; try rfl)); go_simp; refine hK.out _ _ hSx (fun hSy => ?_); clear hK K; try clear hSx; have hSx := hSy; clear hSy; (try simp only [Act.put, List.setIfInBounds_toArray, List.set_cons_zero, List.set_cons_succ]))
          first | (refine wpAnyH_take (i := 36) (oi := ?o36) (v := ?v36) ?ho36 (by kernel_rfl) (by kernel_rfl) (by kernel_rfl) ?hQ36 (Or.inl ⟨?hw36, ?hy36⟩) (by assumption) ?_; (case ho36 => (simp only [List.getElem?_toArray, List.getElem?_cons_succ, List.getElem?_cons_zero]; try rfl)); (case hQ36 => exact fun _ _ _ h => h); (case hw36 => rfl); (case hy36 => (intro w hSw; (try dsimp only at hSw); go_simp; (first | done | (with_reducible rfl)))); (try simp only [Act.put, List.setIfInBounds_toArray, List.set_cons_zero, List.set_cons_succ])) | (refine wpAnyH_ready (rs := [36]) (by kernel_rfl) (by simp) ?_; refine AllReadyH.cons (i := 36) (o := ?o36) ?ho36 (fun K hK => ?_) AllReadyH.nil; (case ho36 => (simp only [List.getElem?_toArray, List.getElem?_cons_succ, List.getElem?_cons_zero]; try rfl)); go_simp; refine hK.out _ _ hSx (fun hSy => ?_); clear hK K; try clear hSx; have hSx := hSy; clear hSy; (try simp only [Act.put, List.setIfInBounds_toArray, List.set_cons_zero, List.set_cons_succ]))
          first | (refine strike_ (i := 37) (oi := ?o37) ?ho37 (by kernel_rfl) (by kernel_rfl) (by kernel_rfl) ?hQ37 ?hw37 (by assumption) ?_; (case ho37 => (simp only [List.getElem?_toArray, List.getElem?_cons_succ, List.getElem?_cons_zero]; try rfl)); (case hQ37 => exact fun _ _ _ h => h); (case hw37 => rfl); (try simp only [Act.put, List.setIfInBounds_toArray, List.set_cons_zero, List.set_cons_succ])) | (refine wpAnyH_take (i := 37) (oi := ?o37) (v := ?v37) ?ho37 (by kernel_rfl) (by kernel_rfl) (by kernel_rfl) ?hQ37 (Or.inl ⟨?hw37, ?hy37⟩) (by assumption) ?_; (case ho37 => (simp only [List.getElem?_toArray, List.getElem?_cons_succ, List.getElem?_cons_zero]; try rfl)); (case hQ37 => exact fun _ _ _ h => h); (case hw37 => rfl); (case hy37 => (intro w hSw; (try dsimp only at hSw); go_simp; (first | done | (with_reducible rfl)))); (try simp only [Act.put, List.setIfInBounds_toArray, List.set_cons_zero, List.set_cons_succ])) | (refine wpAnyH_ready (rs := [37]) (by kernel_rfl) (by simp) ?_; refine AllReadyH.cons (i := 37) (o := ?o37) ?ho37 (fun K hK => ?_) AllReadyH.nil; (case ho37 => (simp only [List.getElem?_toArray, List.getElem?_cons_succ, List.getElem?_cons_zero]; try rfl)); go_simp; refine hK.out _ _ hSx (fun hSy => ?_); clear hK K; try clear hSx; have hSx := hSy; clear hSy; (try simp only [Act.put, List.setIfInBounds_toArray, List.set_cons_zero, List.set_cons_succ]))
          first | (refine strike_ (i := 38) (oi := ?o38) ?ho38 (by kernel_rfl) (by kernel_rfl) (by kernel_rfl) ?hQ38 ?hw38 (by assumption) ?_; (case ho38 => (simp only [List.getElem?_toArray, List.getElem?_cons_succ, List.getElem?_cons_zero]; try rfl)); (case hQ38 => exact fun _ _ _ h => h); (case hw38 => rfl); (try simp only [Act.put, List.setIfInBounds_toArray, List.set_cons_zero, List.set_cons_succ])) | (refine wpAnyH_take (i := 38) (oi := ?o38) (v := ?v38) ?ho38 (by kernel_rfl) (by kernel_rfl) (by kernel_rfl) ?hQ38 (Or.inl ⟨?hw38, ?hy38⟩) (by assumption) ?_; (case ho38 => (simp only [List.getElem?_toArray, List.getElem?_cons_succ, List.getElem?_cons_zero]; try rfl)); (case hQ38 => exact fun _ _ _ h => h); (case hw38 => rfl); (case hy38 => (intro w hSw; (try dsimp only at hSw); go_simp; (first | done | (with_reducible rfl)))); (try simp only [Act.put, List.setIfInBounds_toArray, List.set_cons_zero, List.set_cons_succ])) | (refine wpAnyH_ready (rs := [38]) (by kernel_rfl) (by simp) ?_; refine AllReadyH.cons (i := 38) (o := ?o38) ?ho38 (fun K hK => ?_) AllReadyH.nil; (case ho38 => (simp only [List.getElem?_toArray, List.getElem?_cons_succ, List.getElem?_cons_zero]; try rfl)); go_simp; refine hK.out _ _ hSx (fun hSy => ?_); clear hK K; try clear hSx; have hSx := hSy; clear hSy; (try simp only [Act.put, List.setIfInBounds_toArray, List.set_cons_zero, List.set_cons_succ]))
          first | (refine strike_ (i := 39) (oi := ?o39) ?ho39 (by kernel_rfl) (by kernel_rfl) (by kernel_rfl) ?hQ39 ?hw39 (by assumption) ?_; (case ho39 => (simp only [List.getElem?_toArray, List.getElem?_cons_succ, List.getElem?_cons_zero]; try rfl)); (case hQ39 => exact fun _ _ _ h => h); (case hw39 => rfl); (try simp only [Act.put, List.setIfInBounds_toArray, List.set_cons_zero, List.set_cons_succ])) | (refine wpAnyH_take (i := 39) (oi := ?o39) (v := ?v39) ?ho39 (by kernel_rfl) (by kernel_rfl) (by kernel_rfl) ?hQ39 (Or.inl ⟨?hw39, ?hy39⟩) (by assumption) ?_; (case ho39 => (simp only [List.getElem?_toArray, List.getElem?_cons_succ, List.getElem?_cons_zero]; try rfl)); (case hQ39 => exact fun _ _ _ h => h); (case hw39 => rfl); (case hy39 => (intro w hSw; (try dsimp only at hSw); go_simp; (first | done | (with_reducible rfl)))); (try simp only [Act.put, List.setIfInBounds_toArray, List.set_cons_zero, List.set_cons_succ])) | (refine wpAnyH_ready (rs := [39]) (by kernel_rfl) (by simp) ?_; refine AllReadyH.cons (i := 39) (o := ?o39) ?ho39 (fun K hK => ?_) AllReadyH.nil; (case ho39 => (simp only [List.getElem?_toArray, List.getElem?_cons_succ, List.getElem?_cons_zero]; try rfl)); go_simp; refine hK.out _ _ hSx (fun hSy => ?_); clear hK K; try clear hSx; have hSx := hSy; clear hSy; (try simp only [Act.put, List.setIfInBounds_toArray, List.set_cons_zero, List.set_cons_succ]))
          first | (refine wpAnyH_take (i := 40) (oi := ?o40) (v := ?v40) ?ho40 (by kernel_rfl) (by kernel_rfl) (by kernel_rfl) ?hQ40 (Or.inl ⟨?hw40, ?hy40⟩) (by assumption) ?_; (case ho40 => (simp only [List.getElem?_toArray, List.getElem?_cons_succ, List.getElem?_cons_zero]; try rfl)); (case hQ40 => exact fun _ _ _ h => h); (case hw40 => rfl); (case hy40 => (intro w hSw; (try dsimp only at hSw); go_simp; (first | done | (with_reducible rfl)))); (try simp only [Act.put, List.setIfInBounds_toArray, List.set_cons_zero, List.set_cons_succ])) | (refine wpAnyH_ready (rs := [40]) (by kernel_rfl) (by simp) ?_; refine AllReadyH.cons (i := 40) (o := ?o40) ?ho40 (fun K hK => ?_) AllReadyH.nil; (case ho40 => (simp only [List.getElem?_toArray, List.getElem?_cons_succ, List.getElem?_cons_zero]; try rfl)); go_simp; refine hK.out _ _ hSx (fun hSy => ?_); clear hK K; try clear hSx; have hSx := hSy; clear hSy; (try simp only [Act.put, List.setIfInBounds_toArray, List.set_cons_zero, List.set_cons_succ]))
          first | (refine wpAnyH_take (i := 41) (oi := ?o41) (v := ?v41) ?ho41 (by kernel_rfl) (by kernel_rfl) (by kernel_rfl) ?hQ41 (Or.inl ⟨?hw41, ?hy41⟩) (by assumption) ?_; (case ho41 => (simp only [List.getElem?_toArray, List.getElem?_cons_succ, List.getElem?_cons_zero]; try rfl)); (case hQ41 => exact fun _ _ _ h => h); (case hw41 => rfl); (case hy41 => (intro w hSw; (try dsimp only at hSw); go_simp; (first | done | (with_reducible rfl)))); (try simp only [Act.put, List.setIfInBounds_toArray, List.set_cons_zero, List.set_cons_succ])) | (refine wpAnyH_ready (rs := [41]) (by kernel_rfl) (by simp) ?_; refine AllReadyH.cons (i := 41) (o := ?o41) ?ho41 (fun K hK => ?_) AllReadyH.nil; (case ho41 => (simp only [List.getElem?_toArray, List.getElem?_cons_succ, List.getElem?_cons_zero]; try rfl)); go_simp; refine hK.out _ _ hSx (fun hSy => ?_); clear hK K; try clear hSx; have hSx := hSy; clear hSy; (try simp only [Act.put, List.setIfInBounds_toArray, List.set_cons_zero, List.set_cons_succ]))
          refine wpAnyH_done (by kernel_rfl) ?_ _
          (go_wp2_with fail; go_meet; (try go_split_ands); exact ⟨rfl, by assumption⟩)
      case rest =>
        obtain ⟨rfl, hbx⟩ := hcut
        have HBX := hide hbx
        have HOX := hide (o9 HO2.out hbx)
        clear hbx
        go_upto_region 10 with fail
        go_cut [85] from 67 to 85 (fun v wx => v = .bool false ∧ Below w2.heap.size w2 wx)
        case first =>
          by_cases hk0 : 0 < k
          · obtain ⟨As, cs, hsv, hcs, hCs0⟩ := Kd.R_reads HS.out
            have hkL := HLK.out
            rw [hkL] at hsv hCs0 hcs
            obtain ⟨as_, B7, d7, hAs, y0, y1, y2, y3, y4, y5, y6, y7, y8, ly, gy⟩ := at_T24 hCs0 ((k : Int) - 1) (by omega) (by omega)
            obtain ⟨⟨p0, p1, p2, p3, p4, p5, p6, p7, p8⟩, hp⟩ : ∃ y, rd_T24 L ((k : Int) - 1) = y := ⟨_, rfl⟩
            rw [hp] at y0 y1 y2 y3 y4 y5 y6 y7 y8 ly gy
            dsimp only at y0 y1 y2 y3 y4 y5 y6 y7 y8 ly gy
            have ek : ((k : Int) - 1).toNat = k - 1 := by omega
            rw [ek] at y0 y1 y2 y3 y4 y5 y6 y7 y8
            obtain ⟨sb, hsb⟩ : ∃ b, sameB ⟨o0, o1, o2, o3, o4, o5, o6, o7, o8⟩ ⟨p0, p1, p2, p3, p4, p5, p6, p7, p8⟩ = b := ⟨_, rfl⟩
            have HWR := hide (fun W (hb : Below w2.heap.size w2 W) => (below_step HB12.out hb : Below wr.heap.size wr W))
            have HY := hide (fun W (hb : Below w2.heap.size w2 W) => (⟨cell_of_row _ _ 0 _ _ _ (blk9 HO2.out hb), cell_of_row _ _ 1 _ _ _ (blk9 HO2.out hb), cell_of_row _ _ 2 _ _ _ (blk9 HO2.out hb), cell_of_row _ _ 3 _ _ _ (blk9 HO2.out hb), cell_of_row _ _ 4 _ _ _ (blk9 HO2.out hb), cell_of_row _ _ 5 _ _ _ (blk9 HO2.out hb), cell_of_row _ _ 6 _ _ _ (blk9 HO2.out hb), cell_of_row _ _ 7 _ _ _ (blk9 HO2.out hb), cell_of_row _ _ 8 _ _ _ (blk9 HO2.out hb), cellW y0 (HWR.out W hb), cellW y1 (HWR.out W hb), cellW y2 (HWR.out W hb), cellW y3 (HWR.out W hb), cellW y4 (HWR.out W hb), cellW y5 (HWR.out W hb), cellW y6 (HWR.out W hb), cellW y7 (HWR.out W hb), cellW y8 (HWR.out W hb), hb⟩ : W.cell? ⟨g, 0, none⟩ = some (.int .i64 o0) ∧ W.cell? ⟨g, 1, none⟩ = some (.int .i64 o1) ∧ W.cell? ⟨g, 2, none⟩ = some (.int .i64 o2) ∧ W.cell? ⟨g, 3, none⟩ = some (.int .i64 o3) ∧ W.cell? ⟨g, 4, none⟩ = some (.int .i64 o4) ∧ W.cell? ⟨g, 5, none⟩ = some (.int .i64 o5) ∧ W.cell? ⟨g, 6, none⟩ = some (.string o6) ∧ W.cell? ⟨g, 7, none⟩ = some (.slice A7 o7.length c7) ∧ W.cell? ⟨g, 8, none⟩ = some (.string o8) ∧ W.cell? (as_.add ((k - 1) * 9)) = some (.int .i64 p0) ∧ W.cell? ⟨(as_.add ((k - 1) * 9)).block, (as_.add ((k - 1) * 9)).off + 1, none⟩ = some (.int .i64 p1) ∧ W.cell? ⟨(as_.add ((k - 1) * 9)).block, (as_.add ((k - 1) * 9)).off + 2, none⟩ = some (.int .i64 p2) ∧ W.cell? ⟨(as_.add ((k - 1) * 9)).block, (as_.add ((k - 1) * 9)).off + 3, none⟩ = some (.int .i64 p3) ∧ W.cell? ⟨(as_.add ((k - 1) * 9)).block, (as_.add ((k - 1) * 9)).off + 4, none⟩ = some (.int .i64 p4) ∧ W.cell? ⟨(as_.add ((k - 1) * 9)).block, (as_.add ((k - 1) * 9)).off + 5, none⟩ = some (.int .i64 p5) ∧ W.cell? ⟨(as_.add ((k - 1) * 9)).block, (as_.add ((k - 1) * 9)).off + 6, none⟩ = some (.string p6) ∧ W.cell? ⟨(as_.add ((k - 1) * 9)).block, (as_.add ((k - 1) * 9)).off + 7, none⟩ = some (.slice B7 p7.length d7) ∧ W.cell? ⟨(as_.add ((k - 1) * 9)).block, (as_.add ((k - 1) * 9)).off + 8, none⟩ = some (.string p8) ∧ Below w2.heap.size w2 W))
            have HC7b := HC7.out
            have HL7b := HL7.out
            have HS9 := hide (fun W (hb : Below w2.heap.size w2 W) => sameOp ⟨o0, o1, o2, o3, o4, o5, o6, o7, o8⟩ ⟨p0, p1, p2, p3, p4, p5, p6, p7, p8⟩ A7 B7 c7 d7 W (Kd.C_below HC7b hb) HL7b (Kd.C_below gy (HWR.out W hb)) ly)
            have HS17 := hide (fun W (hb : Below w2.heap.size w2 W) => keepOp ⟨o0, o1, o2, o3, o4, o5, o6, o7, o8⟩ ⟨p0, p1, p2, p3, p4, p5, p6, p7, p8⟩ A7 B7 c7 d7 W (Kd.C_below HC7b hb) HL7b (Kd.C_below gy (HWR.out W hb)) ly)
            dsimp only at HS9 HS17
            rw [hsb] at HS9 HS17
            have hHY0 := HY.out wc HBX.out
            obtain ⟨z0, z1, z2, z3, z4, z5, z6, z7, z8, y0, y1, y2, y3, y4, y5, y6, y7, y8, -⟩ := hHY0
            have hss : (sb != sb) = false := by cases sb <;> rfl
            have ew : IntKind.i64.wrap ((k : Int) - 1) = (k : Int) - 1 := IntWalk.i64_in _ (by omega)
            have k4 : (0 : Int) < (k : Int) := by omega
            have k5 : (1 : Int) ≤ (k : Int) := by omega
            have k6 : (k : Int) - 1 < (k : Int) := by omega
            have k7 : (0 : Int) ≤ (k : Int) - 1 := by omega
            subst hAs
            subst hsv
            clear hkL hCs0 hcs hp ek hsb HC7b HL7b ly gy
            go_region_held3 (fun W => W.cell? ⟨g, 0, none⟩ = some (.int .i64 o0) ∧ W.cell? ⟨g, 1, none⟩ = some (.int .i64 o1) ∧ W.cell? ⟨g, 2, none⟩ = some (.int .i64 o2) ∧ W.cell? ⟨g, 3, none⟩ = some (.int .i64 o3) ∧ W.cell? ⟨g, 4, none⟩ = some (.int .i64 o4) ∧ W.cell? ⟨g, 5, none⟩ = some (.int .i64 o5) ∧ W.cell? ⟨g, 6, none⟩ = some (.string o6) ∧ W.cell? ⟨g, 7, none⟩ = some (.slice A7 o7.length c7) ∧ W.cell? ⟨g, 8, none⟩ = some (.string o8) ∧ W.cell? (as_.add ((k - 1) * 9)) = some (.int .i64 p0) ∧ W.cell? ⟨(as_.add ((k - 1) * 9)).block, (as_.add ((k - 1) * 9)).off + 1, none⟩ = some (.int .i64 p1) ∧ W.cell? ⟨(as_.add ((k - 1) * 9)).block, (as_.add ((k - 1) * 9)).off + 2, none⟩ = some (.int .i64 p2) ∧ W.cell? ⟨(as_.add ((k - 1) * 9)).block, (as_.add ((k - 1) * 9)).off + 3, none⟩ = some (.int .i64 p3) ∧ W.cell? ⟨(as_.add ((k - 1) * 9)).block, (as_.add ((k - 1) * 9)).off + 4, none⟩ = some (.int .i64 p4) ∧ W.cell? ⟨(as_.add ((k - 1) * 9)).block, (as_.add ((k - 1) * 9)).off + 5, none⟩ = some (.int .i64 p5) ∧ W.cell? ⟨(as_.add ((k - 1) * 9)).block, (as_.add ((k - 1) * 9)).off + 6, none⟩ = some (.string p6) ∧ W.cell? ⟨(as_.add ((k - 1) * 9)).block, (as_.add ((k - 1) * 9)).off + 7, none⟩ = some (.slice B7 p7.length d7) ∧ W.cell? ⟨(as_.add ((k - 1) * 9)).block, (as_.add ((k - 1) * 9)).off + 8, none⟩ = some (.string p8) ∧ Below w2.heap.size w2 W)
              (first | exact HY.out _ HBX.out | exact HY.out _ (Below.drew HBX.out) | ((try go_split_ands); exact HY.out _ (below_step (by assumption) b9)) | ((try go_split_ands); exact HY.out _ (below_step (by assumption) b17)))
              (first | (go_at_call 9; (try go_split_ands); (with_reducible refine (HS9.out _ (by assumption)).mono ?_); rintro e wn ⟨rfl, b9⟩) | (go_at_call 17; (try go_split_ands); (with_reducible refine (HS17.out _ (by assumption)).mono ?_); rintro e wn ⟨rfl, b17⟩))
            all_goals (go_wp2_with fail; go_meet; (try go_split_ands); exact ⟨rfl, by assumption⟩)
          · obtain rfl : k = 0 := by omega
            refine wp_region_held_drew (S := fun W => Below w2.heap.size w2 W) (by kernel_rfl) (Below.drew HBX.out) (fun hSx => ?_)
            first | (refine wpAnyH_take (i := 0) (oi := ?o0r) (v := ?v0r) ?ho0r (by kernel_rfl) (by kernel_rfl) (by kernel_rfl) ?hQ0r (Or.inl ⟨?hw0r, ?hy0r⟩) (by assumption) ?_; (case ho0r => (simp only [List.getElem?_toArray, List.getElem?_cons_succ, List.getElem?_cons_zero]; try rfl)); (case hQ0r => exact fun _ _ _ h => h); (case hw0r => rfl); (case hy0r => (intro w hSw; (try dsimp only at hSw); go_simp; (first | done | (with_reducible rfl)))); (try simp only [Act.put, List.setIfInBounds_toArray, List.set_cons_zero, List.set_cons_succ])) | (refine wpAnyH_ready (rs := [0]) (by kernel_rfl) (by simp) ?_; refine AllReadyH.cons (i := 0) (o := ?o0r) ?ho0r (fun K hK => ?_) AllReadyH.nil; (case ho0r => (simp only [List.getElem?_toArray, List.getElem?_cons_succ, List.getElem?_cons_zero]; try rfl)); go_simp; refine hK.out _ _ hSx (fun hSy => ?_); clear hK K; try clear hSx; have hSx := hSy; clear hSy; (try simp only [Act.put, List.setIfInBounds_toArray, List.set_cons_zero, List.set_cons_succ]))
            first | (refine wpAnyH_take (i := 1) (oi := ?o1r) (v := ?v1r) ?ho1r (by kernel_rfl) (by kernel_rfl) (by kernel_rfl) ?hQ1r (Or.inl ⟨?hw1r, ?hy1r⟩) (by assumption) ?_; (case ho1r => (simp only [List.getElem?_toArray, List.getElem?_cons_succ, List.getElem?_cons_zero]; try rfl)); (case hQ1r => exact fun _ _ _ h => h); (case hw1r => rfl); (case hy1r => (intro w hSw; (try dsimp only at hSw); go_simp; (first | done | (with_reducible rfl)))); (try simp only [Act.put, List.setIfInBounds_toArray, List.set_cons_zero, List.set_cons_succ])) | (refine wpAnyH_ready (rs := [1]) (by kernel_rfl) (by simp) ?_; refine AllReadyH.cons (i := 1) (o := ?o1r) ?ho1r (fun K hK => ?_) AllReadyH.nil; (case ho1r => (simp only [List.getElem?_toArray, List.getElem?_cons_succ, List.getElem?_cons_zero]; try rfl)); go_simp; refine hK.out _ _ hSx (fun hSy => ?_); clear hK K; try clear hSx; have hSx := hSy; clear hSy; (try simp only [Act.put, List.setIfInBounds_toArray, List.set_cons_zero, List.set_cons_succ]))
            first | (refine wpAnyH_take (i := 2) (oi := ?o2r) (v := ?v2r) ?ho2r (by kernel_rfl) (by kernel_rfl) (by kernel_rfl) ?hQ2r (Or.inl ⟨?hw2r, ?hy2r⟩) (by assumption) ?_; (case ho2r => (simp only [List.getElem?_toArray, List.getElem?_cons_succ, List.getElem?_cons_zero]; try rfl)); (case hQ2r => exact fun _ _ _ h => h); (case hw2r => rfl); (case hy2r => (intro w hSw; (try dsimp only at hSw); go_simp; (first | done | (with_reducible rfl)))); (try simp only [Act.put, List.setIfInBounds_toArray, List.set_cons_zero, List.set_cons_succ])) | (refine wpAnyH_ready (rs := [2]) (by kernel_rfl) (by simp) ?_; refine AllReadyH.cons (i := 2) (o := ?o2r) ?ho2r (fun K hK => ?_) AllReadyH.nil; (case ho2r => (simp only [List.getElem?_toArray, List.getElem?_cons_succ, List.getElem?_cons_zero]; try rfl)); go_simp; refine hK.out _ _ hSx (fun hSy => ?_); clear hK K; try clear hSx; have hSx := hSy; clear hSy; (try simp only [Act.put, List.setIfInBounds_toArray, List.set_cons_zero, List.set_cons_succ]))
            refine strike_ (i := 3) (oi := ?o3r) ?ho3r (by kernel_rfl) (by kernel_rfl) (by kernel_rfl) ?hQ3r ?hw3r (by assumption) ?_
            case ho3r => (simp only [List.getElem?_toArray, List.getElem?_cons_succ, List.getElem?_cons_zero]; try rfl)
            case hQ3r => exact fun _ _ _ h => h
            case hw3r => rfl
            (try simp only [Act.put, List.setIfInBounds_toArray, List.set_cons_zero, List.set_cons_succ])
            refine strike_ (i := 4) (oi := ?o4r) ?ho4r (by kernel_rfl) (by kernel_rfl) (by kernel_rfl) ?hQ4r ?hw4r (by assumption) ?_
            case ho4r => (simp only [List.getElem?_toArray, List.getElem?_cons_succ, List.getElem?_cons_zero]; try rfl)
            case hQ4r => exact fun _ _ _ h => h
            case hw4r => rfl
            (try simp only [Act.put, List.setIfInBounds_toArray, List.set_cons_zero, List.set_cons_succ])
            refine strike_ (i := 5) (oi := ?o5r) ?ho5r (by kernel_rfl) (by kernel_rfl) (by kernel_rfl) ?hQ5r ?hw5r (by assumption) ?_
            case ho5r => (simp only [List.getElem?_toArray, List.getElem?_cons_succ, List.getElem?_cons_zero]; try rfl)
            case hQ5r => exact fun _ _ _ h => h
            case hw5r => rfl
            (try simp only [Act.put, List.setIfInBounds_toArray, List.set_cons_zero, List.set_cons_succ])
            refine strike_ (i := 6) (oi := ?o6r) ?ho6r (by kernel_rfl) (by kernel_rfl) (by kernel_rfl) ?hQ6r ?hw6r (by assumption) ?_
            case ho6r => (simp only [List.getElem?_toArray, List.getElem?_cons_succ, List.getElem?_cons_zero]; try rfl)
            case hQ6r => exact fun _ _ _ h => h
            case hw6r => rfl
            (try simp only [Act.put, List.setIfInBounds_toArray, List.set_cons_zero, List.set_cons_succ])
            refine strike_ (i := 7) (oi := ?o7r) ?ho7r (by kernel_rfl) (by kernel_rfl) (by kernel_rfl) ?hQ7r ?hw7r (by assumption) ?_
            case ho7r => (simp only [List.getElem?_toArray, List.getElem?_cons_succ, List.getElem?_cons_zero]; try rfl)
            case hQ7r => exact fun _ _ _ h => h
            case hw7r => rfl
            (try simp only [Act.put, List.setIfInBounds_toArray, List.set_cons_zero, List.set_cons_succ])
            refine strike_ (i := 8) (oi := ?o8r) ?ho8r (by kernel_rfl) (by kernel_rfl) (by kernel_rfl) ?hQ8r ?hw8r (by assumption) ?_
            case ho8r => (simp only [List.getElem?_toArray, List.getElem?_cons_succ, List.getElem?_cons_zero]; try rfl)
            case hQ8r => exact fun _ _ _ h => h
            case hw8r => rfl
            (try simp only [Act.put, List.setIfInBounds_toArray, List.set_cons_zero, List.set_cons_succ])
            refine strike_ (i := 9) (oi := ?o9r) ?ho9r (by kernel_rfl) (by kernel_rfl) (by kernel_rfl) ?hQ9r ?hw9r (by assumption) ?_
            case ho9r => (simp only [List.getElem?_toArray, List.getElem?_cons_succ, List.getElem?_cons_zero]; try rfl)
            case hQ9r => exact fun _ _ _ h => h
            case hw9r => rfl
            (try simp only [Act.put, List.setIfInBounds_toArray, List.set_cons_zero, List.set_cons_succ])
            refine strike_ (i := 10) (oi := ?o10r) ?ho10r (by kernel_rfl) (by kernel_rfl) (by kernel_rfl) ?hQ10r ?hw10r (by assumption) ?_
            case ho10r => (simp only [List.getElem?_toArray, List.getElem?_cons_succ, List.getElem?_cons_zero]; try rfl)
            case hQ10r => exact fun _ _ _ h => h
            case hw10r => rfl
            (try simp only [Act.put, List.setIfInBounds_toArray, List.set_cons_zero, List.set_cons_succ])
            refine strike_ (i := 11) (oi := ?o11r) ?ho11r (by kernel_rfl) (by kernel_rfl) (by kernel_rfl) ?hQ11r ?hw11r (by assumption) ?_
            case ho11r => (simp only [List.getElem?_toArray, List.getElem?_cons_succ, List.getElem?_cons_zero]; try rfl)
            case hQ11r => exact fun _ _ _ h => h
            case hw11r => rfl
            (try simp only [Act.put, List.setIfInBounds_toArray, List.set_cons_zero, List.set_cons_succ])
            refine strike_ (i := 12) (oi := ?o12r) ?ho12r (by kernel_rfl) (by kernel_rfl) (by kernel_rfl) ?hQ12r ?hw12r (by assumption) ?_
            case ho12r => (simp only [List.getElem?_toArray, List.getElem?_cons_succ, List.getElem?_cons_zero]; try rfl)
            case hQ12r => exact fun _ _ _ h => h
            case hw12r => rfl
            (try simp only [Act.put, List.setIfInBounds_toArray, List.set_cons_zero, List.set_cons_succ])
            refine strike_ (i := 13) (oi := ?o13r) ?ho13r (by kernel_rfl) (by kernel_rfl) (by kernel_rfl) ?hQ13r ?hw13r (by assumption) ?_
            case ho13r => (simp only [List.getElem?_toArray, List.getElem?_cons_succ, List.getElem?_cons_zero]; try rfl)
            case hQ13r => exact fun _ _ _ h => h
            case hw13r => rfl
            (try simp only [Act.put, List.setIfInBounds_toArray, List.set_cons_zero, List.set_cons_succ])
            refine strike_ (i := 14) (oi := ?o14r) ?ho14r (by kernel_rfl) (by kernel_rfl) (by kernel_rfl) ?hQ14r ?hw14r (by assumption) ?_
            case ho14r => (simp only [List.getElem?_toArray, List.getElem?_cons_succ, List.getElem?_cons_zero]; try rfl)
            case hQ14r => exact fun _ _ _ h => h
            case hw14r => rfl
            (try simp only [Act.put, List.setIfInBounds_toArray, List.set_cons_zero, List.set_cons_succ])
            refine strike_ (i := 15) (oi := ?o15r) ?ho15r (by kernel_rfl) (by kernel_rfl) (by kernel_rfl) ?hQ15r ?hw15r (by assumption) ?_
            case ho15r => (simp only [List.getElem?_toArray, List.getElem?_cons_succ, List.getElem?_cons_zero]; try rfl)
            case hQ15r => exact fun _ _ _ h => h
            case hw15r => rfl
            (try simp only [Act.put, List.setIfInBounds_toArray, List.set_cons_zero, List.set_cons_succ])
            refine strike_ (i := 16) (oi := ?o16r) ?ho16r (by kernel_rfl) (by kernel_rfl) (by kernel_rfl) ?hQ16r ?hw16r (by assumption) ?_
            case ho16r => (simp only [List.getElem?_toArray, List.getElem?_cons_succ, List.getElem?_cons_zero]; try rfl)
            case hQ16r => exact fun _ _ _ h => h
            case hw16r => rfl
            (try simp only [Act.put, List.setIfInBounds_toArray, List.set_cons_zero, List.set_cons_succ])
            refine strike_ (i := 17) (oi := ?o17r) ?ho17r (by kernel_rfl) (by kernel_rfl) (by kernel_rfl) ?hQ17r ?hw17r (by assumption) ?_
            case ho17r => (simp only [List.getElem?_toArray, List.getElem?_cons_succ, List.getElem?_cons_zero]; try rfl)
            case hQ17r => exact fun _ _ _ h => h
            case hw17r => rfl
            (try simp only [Act.put, List.setIfInBounds_toArray, List.set_cons_zero, List.set_cons_succ])
            first | (refine wpAnyH_take (i := 18) (oi := ?o18r) (v := ?v18r) ?ho18r (by kernel_rfl) (by kernel_rfl) (by kernel_rfl) ?hQ18r (Or.inl ⟨?hw18r, ?hy18r⟩) (by assumption) ?_; (case ho18r => (simp only [List.getElem?_toArray, List.getElem?_cons_succ, List.getElem?_cons_zero]; try rfl)); (case hQ18r => exact fun _ _ _ h => h); (case hw18r => rfl); (case hy18r => (intro w hSw; (try dsimp only at hSw); go_simp; (first | done | (with_reducible rfl)))); (try simp only [Act.put, List.setIfInBounds_toArray, List.set_cons_zero, List.set_cons_succ])) | (refine wpAnyH_ready (rs := [18]) (by kernel_rfl) (by simp) ?_; refine AllReadyH.cons (i := 18) (o := ?o18r) ?ho18r (fun K hK => ?_) AllReadyH.nil; (case ho18r => (simp only [List.getElem?_toArray, List.getElem?_cons_succ, List.getElem?_cons_zero]; try rfl)); go_simp; refine hK.out _ _ hSx (fun hSy => ?_); clear hK K; try clear hSx; have hSx := hSy; clear hSy; (try simp only [Act.put, List.setIfInBounds_toArray, List.set_cons_zero, List.set_cons_succ]))
            refine wpAnyH_done (by kernel_rfl) ?_ _
            (go_wp2_with fail; go_meet; (try go_split_ands); exact ⟨rfl, by assumption⟩)
        case rest =>
          obtain ⟨rfl, hby⟩ := hcut
          have HBY := hide hby
          clear hby HBX HOX
          go_upto_region 12 with fail
          have HSC := hide (Kd.R_below HS.out (below_step HB12.out HBY.out))
          have HBC := hide (below_step HBR2.out HBY.out)
          have hcR7 := Kd.R_below HR7.out HBY.out
          have HP := hide (mk24 ⟨o0, o1, o2, o3, o4, o5, o6, o7, o8⟩ HS.out HBR.out.size hcR7)
          have HR7n := hide (show k32.R 32 wc wr.heap.size (fun k => True ∧ some k ≠ sv.ownBlock) (.slice A7 o7.length c7) o7 from by
            obtain ⟨inner, ho⟩ := Kd.R_own HS.out
            exact Kd.R_new hcR7 ho)
          have HNE := hide (show some g ≠ sv.ownBlock from by
            obtain ⟨inner, ho⟩ := Kd.R_own HS.out
            intro e
            have h1 := own_lt ho g e.symm
            have h2 := HGE.out
            omega)
          have hcO := blk9 HO2.out HBY.out
          have HOC := hide hcO
          have hz1 : L.length + 1 ≤ 30 := by have := HLK.out; omega
          have HZ1 := hide hz1
          have cV0 : wc.cell? ⟨g, 0, none⟩ = some (.int .i64 o0) := cell_of_row _ _ 0 _ _ _ HOC.out
          have cV1 : wc.cell? ⟨g, 1, none⟩ = some (.int .i64 o1) := cell_of_row _ _ 1 _ _ _ HOC.out
          have cV2 : wc.cell? ⟨g, 2, none⟩ = some (.int .i64 o2) := cell_of_row _ _ 2 _ _ _ HOC.out
          have cV3 : wc.cell? ⟨g, 3, none⟩ = some (.int .i64 o3) := cell_of_row _ _ 3 _ _ _ HOC.out
          have cV4 : wc.cell? ⟨g, 4, none⟩ = some (.int .i64 o4) := cell_of_row _ _ 4 _ _ _ HOC.out
          have cV5 : wc.cell? ⟨g, 5, none⟩ = some (.int .i64 o5) := cell_of_row _ _ 5 _ _ _ HOC.out
          have cV6 : wc.cell? ⟨g, 6, none⟩ = some (.string o6) := cell_of_row _ _ 6 _ _ _ HOC.out
          have cV7 : wc.cell? ⟨g, 7, none⟩ = some (.slice A7 o7.length c7) := cell_of_row _ _ 7 _ _ _ HOC.out
          have cV8 : wc.cell? ⟨g, 8, none⟩ = some (.string o8) := cell_of_row _ _ 8 _ _ _ HOC.out
          clear hcR7 hcO hz1
          go_upto_region 13 with (at_builtin; refine Kd.R_append k24 (w0 := w) w.heap.size rfl (.tmp 86) (.tmp 88) 40 24 (.agg #[.int .i64 0, .int .i64 0, .int .i64 0, .int .i64 0, .int .i64 0, .int .i64 0, .string ⟨#[]⟩, .slice none 0 0, .string ⟨#[]⟩]) 104 rfl Tryd.underlying40 info24 rfl (by decide) (by decide) _ L ⟨o0, o1, o2, o3, o4, o5, o6, o7, o8⟩ [.int .i64 o0, .int .i64 o1, .int .i64 o2, .int .i64 o3, .int .i64 o4, .int .i64 o5, .string o6, .slice A7 o7.length c7, .string o8] (fun _ => True) (fun k => True ∧ some k ≠ sv.ownBlock) rfl rfl HP.out (fun _ h => h) (fun _ _ => trivial) HSC.out HBC.out HBC.out.size (by have := HZ1.out; omega) ?_; intro v1 w13 hr1 hb1 hg1 hown; have HR1 := hide hr1; have HB1 := hide hb1; have HG1 := hide hg1; clear hr1 hb1 hg1 hown)
          clear cV0 cV1 cV2 cV3 cV4 cV5 cV6 cV7 cV8
          have hO13 : w13.heap[g]? = some (.cells #[.int .i64 o0, .int .i64 o1, .int .i64 o2, .int .i64 o3, .int .i64 o4, .int .i64 o5, .string o6, .slice A7 o7.length c7, .string o8] 24 (0, 0)) := (HG1.out.block g (blk_lt HOC.out) HNE.out).trans HOC.out
          have HR13 := hide (row_grown (HW.out.below (below_step HB12.out HBY.out)) HSC.out HG1.out HB1.out)
          obtain ⟨-, -, hC13⟩ := Kd.R_reads' (Kd.R_grown HR7n.out HG1.out (fun _ hk => hk.2))
          have HC13 := hide hC13
          have HO13 := hide hO13
          have cD0 : w13.cell? ⟨g, 0, none⟩ = some (.int .i64 o0) := cell_of_row _ _ 0 _ _ _ HO13.out
          have cD1 : w13.cell? ⟨g, 1, none⟩ = some (.int .i64 o1) := cell_of_row _ _ 1 _ _ _ HO13.out
          have cD2 : w13.cell? ⟨g, 2, none⟩ = some (.int .i64 o2) := cell_of_row _ _ 2 _ _ _ HO13.out
          have cD3 : w13.cell? ⟨g, 3, none⟩ = some (.int .i64 o3) := cell_of_row _ _ 3 _ _ _ HO13.out
          have cD4 : w13.cell? ⟨g, 4, none⟩ = some (.int .i64 o4) := cell_of_row _ _ 4 _ _ _ HO13.out
          have cD5 : w13.cell? ⟨g, 5, none⟩ = some (.int .i64 o5) := cell_of_row _ _ 5 _ _ _ HO13.out
          have cD6 : w13.cell? ⟨g, 6, none⟩ = some (.string o6) := cell_of_row _ _ 6 _ _ _ HO13.out
          have cD7 : w13.cell? ⟨g, 7, none⟩ = some (.slice A7 o7.length c7) := cell_of_row _ _ 7 _ _ _ HO13.out
          have cD8 : w13.cell? ⟨g, 8, none⟩ = some (.string o8) := cell_of_row _ _ 8 _ _ _ HO13.out
          clear hO13 hC13 HSC HP HR7n HOC HG1 HNE
          have hsm := HSM.out
          have hel := encO_len _ hsm
          obtain ⟨LB, hLB⟩ : ∃ B, encO ⟨o0, o1, o2, o3, o4, o5, o6, o7, o8⟩ = B := ⟨_, rfl⟩
          have HLB := hide hLB
          rw [hLB] at hel
          have HEL := hide hel
          clear hsm hel hLB
          cases qb with
          | false =>
            go_wp2_with fail
            go_roundw
            case rel => exact ⟨_, _, _, k + 1, rfl, rfl, rfl, by omega, by omega, by go_num, ⟨telStep (qb := false) (rb := rb) W HST.out HQB.out HRB.out HWE.out HWL.out HSM.out HR1.out HR13.out rfl⟩⟩
            case measure => simp only [intOf]; omega
          | true =>
            have HWE2 := hide (HWE.out rfl)
            go_wp2_with fail
            refine (refRight ⟨o0, o1, o2, o3, o4, o5, o6, o7, o8⟩ A7 c7 w13 HC13.out HL7.out).mono ?_
            rintro e w14 ⟨rfl, hb14⟩
            dsimp only
            have hO14 := blk9 HO13.out hb14
            have hC14 := Kd.C_below HC13.out hb14
            have HC14 := hide hC14
            have HO14 := hide hO14
            have HRw14 := hide (HR13.out.below hb14)
            have HS14 := hide (Kd.R_below HR1.out hb14)
            have hrb := HRB.out
            rw [hrb]
            clear cD0 cD1 cD2 cD3 cD4 cD5 cD6 cD7 cD8 hb14 hC14 hrb
            have cE0 : w14.cell? ⟨g, 0, none⟩ = some (.int .i64 o0) := cell_of_row _ _ 0 _ _ _ HO14.out
            have cE1 : w14.cell? ⟨g, 1, none⟩ = some (.int .i64 o1) := cell_of_row _ _ 1 _ _ _ HO14.out
            have cE2 : w14.cell? ⟨g, 2, none⟩ = some (.int .i64 o2) := cell_of_row _ _ 2 _ _ _ HO14.out
            have cE3 : w14.cell? ⟨g, 3, none⟩ = some (.int .i64 o3) := cell_of_row _ _ 3 _ _ _ HO14.out
            have cE4 : w14.cell? ⟨g, 4, none⟩ = some (.int .i64 o4) := cell_of_row _ _ 4 _ _ _ HO14.out
            have cE5 : w14.cell? ⟨g, 5, none⟩ = some (.int .i64 o5) := cell_of_row _ _ 5 _ _ _ HO14.out
            have cE6 : w14.cell? ⟨g, 6, none⟩ = some (.string o6) := cell_of_row _ _ 6 _ _ _ HO14.out
            have cE7 : w14.cell? ⟨g, 7, none⟩ = some (.slice A7 o7.length c7) := cell_of_row _ _ 7 _ _ _ HO14.out
            have cE8 : w14.cell? ⟨g, 8, none⟩ = some (.string o8) := cell_of_row _ _ 8 _ _ _ HO14.out
            clear hO14
            cases rb with
            | false =>
              go_wp2_with fail
              go_roundw
              case rel => exact ⟨_, _, _, k + 1, rfl, rfl, rfl, by omega, by omega, by go_num, ⟨telStep (qb := true) (rb := false) W HST.out HQB.out HRB.out (fun _ => HWE2.out) HWL.out HSM.out HS14.out HRw14.out rfl⟩⟩
              case measure => simp only [intOf]; omega
            | true =>
              have HBYT := hide (bytes ⟨o0, o1, o2, o3, o4, o5, o6, o7, o8⟩ A7 c7 w14 HC14.out (by have := HEL.out; have h2 := HLB.out; rw [h2]; omega))
              have hlb := HLB.out
              rw [hlb] at HBYT
              clear hlb
              go_wp2_with fail
              refine HBYT.out.mono ?_
              rintro e w15 ⟨v15, rfl, hr15, hs15⟩
              obtain ⟨A15, c15, rfl, hR15, hB15⟩ := hr15
              dsimp only
              have HC15 := hide (Kd.R_reads' hR15).2.2
              have HR15b := hide (HRw14.out.below hB15)
              have HS15 := hide (Kd.R_below HS14.out hB15)
              have hw1 : W.length + LB.length ≤ 100000 := by have := HWL.out; have := HEL.out; omega
              have HW1 := hide hw1
              clear hs15 hR15 hB15 hw1 HBYT cE0 cE1 cE2 cE3 cE4 cE5 cE6 cE7 cE8
              go_wp2_with (at_builtin; refine appB (w := w) (.tmp 96) (.tmp 98) rfl rfl (l := W) (ys := LB) rfl rfl HR15b.out HC15.out (by have := HW1.out; omega) ?_; intro v16 w16 hr16 hs16; have HR16 := hide hr16; have HS16 := hide (some_bes HS15.out hs16); clear hr16 hs16)
              go_roundw
              case rel => exact ⟨_, _, _, k + 1, rfl, rfl, rfl, by omega, by omega, by go_num, ⟨telStep (qb := true) (rb := true) (W ++ LB) HST.out HQB.out HRB.out (fun _ => HWE2.out) HWL.out HSM.out HS16.out HR16.out (by rw [HLB.out]; rfl)⟩⟩
              case measure => simp only [intOf]; omega
    · obtain ⟨hs, ⟨W, hW, hWl, hWe⟩, hq, hB⟩ := hrel.out
      have hao := all_ok l k HI.out
      have hml := made_len l k hk20 HI.out
      obtain ⟨L, hL⟩ : ∃ L, (l.take k).map mk = L := ⟨_, rfl⟩
      rw [hL] at hs hWe hq hao hml
      obtain ⟨qb, hqb⟩ : ∃ b, L.all rightB = b := ⟨_, rfl⟩
      rw [hqb] at hWe hq hao
      obtain ⟨As, cs, hsv, hcs, hCs⟩ := Kd.R_reads hs
      subst hq
      subst hsv
      have HE := hide (encode L As cs wr hCs hcs hml)
      have HAO := hide hao
      have HWE := hide hWe
      have HB := hide hB
      have HROW := hide hW
      have HTR := hide (fun W2 (hb : Below w.heap.size w W2) => known W2 (HT.out.below hb))
      clear hs hW hWl hWe hB hrel hao hml hqb hCs hcs hL
      by_cases k1 : (k : Int) < (n : Int)
      all_goals
        first
        | have k3 : ¬ (k : Int) < 20 := by omega
        | skip
        clear hlt
        go_wp2_with fail
        refine HE.out.mono ?_
        rintro e w3 ⟨hb3, hif⟩
        rw [HAO.out] at hif
        have HB3 := hide (below_step HB.out hb3)
        cases qb with
        | false =>
          rw [if_neg (by decide)] at hif
          subst hif
          dsimp only
          clear hb3 HE
          go_wp2_with fail
          refine (HTR.out w3 HB3.out).mono ?_
          rintro e w4 ⟨rfl, hb4⟩
          dsimp only
          have HB4 := hide (below_step HB3.out hb4)
          clear hb4
          go_wp2_with fail
          go_ret
          exact ⟨rfl, HB4.out⟩
        | true =>
          rw [if_pos rfl] at hif
          obtain ⟨v3, rfl, hr3⟩ := hif
          obtain ⟨A3, c3, rfl, hR3, hB3'⟩ := hr3
          have hW3 := HROW.out.below hb3
          obtain ⟨A4, c4, hbv, hR4, hB4'⟩ := hW3
          rw [HWE.out rfl] at hbv hR4
          subst hbv
          dsimp only
          have q3 := Kd.C_string (P := Tryd.prog) Tryd.underlying36 Tryd.underlying5 Tryd.underlying9 (c := c3) (Kd.R_reads' hR3).2.2
          have q4 := Kd.C_string (P := Tryd.prog) Tryd.underlying36 Tryd.underlying5 Tryd.underlying9 (c := c4) (Kd.R_reads' hR4).2.2
          obtain ⟨S, hS⟩ : ∃ S, strOfNums (encL L) = S := ⟨_, rfl⟩
          obtain ⟨m, hm⟩ : ∃ m, (encL L).length = m := ⟨_, rfl⟩
          rw [hS, hm] at q3 q4
          rw [hm]
          clear hb3 HE hR3 hB3' hR4 hB4' hS hm HROW
          go_wp2_with fail
          refine (HTR.out w3 HB3.out).mono ?_
          rintro e w4 ⟨rfl, hb4⟩
          dsimp only
          have HB4 := hide (below_step HB3.out hb4)
          clear hb4
          go_wp2_with fail
          go_ret
          exact ⟨rfl, HB4.out⟩
end Go.Proofs.YtbljbgjecnmeeaaDoor.OpP
