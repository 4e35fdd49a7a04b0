/- The walk of context.Reset: the mode that the open elements bring. -/
import Derived.Test.YtpofjfnlchpmbaaCtxList
import Derived.BigQuiet
namespace Go.Proofs.Ytpofjfnlchpmbaa.Ctx
open Go.RowKit Go.Proofs.Ytpofjfnlchpmbaa.PContextTells Go.Proofs.YtpofjfnlchpmbaaW.PrintWords Go.Proofs.YtpofjfnlchpmbaaW.PrintLast

def ofL (a : ByteArray) (first hd : Bool) : Int :=
  if a.toList = [116, 100] ∨ a.toList = [116, 104] then (if first = true then 0 else 12)
  else if a.toList = [116, 114] then 11
  else if a.toList = [116, 98, 111, 100, 121] ∨ a.toList = [116, 102, 111, 111, 116] ∨ a.toList = [116, 104, 101, 97, 100] then 10
  else if a.toList = [116, 97, 98, 108, 101] then 8
  else if a.toList = [104, 101, 97, 100] then (if first = true then 0 else 4)
  else if a.toList = [98, 111, 100, 121] then 6
  else if a.toList = [104, 116, 109, 108] then (if hd = true then 5 else 3)
  else 0
theorem of_some (a : ByteArray) (first hd : Bool) : context_of.f 3 a first hd = some (ofL a first hd) := by
  unfold context_of.f ofL
  simp only [context_of.j0, context_of.j1]
  by_cases h1 : a.toList = [116, 100]
  · simp [h1]; split <;> rfl
  by_cases h2 : a.toList = [116, 104]
  · simp [h2]; split <;> rfl
  by_cases h3 : a.toList = [116, 114]
  · simp [h3]
  by_cases h4 : a.toList = [116, 98, 111, 100, 121]
  · simp [h4]
  by_cases h5 : a.toList = [116, 102, 111, 111, 116]
  · simp [h5]
  by_cases h6 : a.toList = [116, 104, 101, 97, 100]
  · simp [h6]
  by_cases h7 : a.toList = [116, 97, 98, 108, 101]
  · simp [h7]
  by_cases h8 : a.toList = [104, 101, 97, 100]
  · simp [h8]; split <;> rfl
  by_cases h9 : a.toList = [98, 111, 100, 121]
  · simp [h9]
  by_cases h10 : a.toList = [104, 116, 109, 108]
  · simp [h10]; split <;> rfl
  simp [h1, h2, h3, h4, h5, h6, h7, h8, h9, h10]
theorem ofW (a : ByteArray) (first hd : Bool) (w : World) : Calls Try.prog 30 #[.string a, .bool first, .bool hd] w fun e w' => e = .returned (.int .i64 (ofL a first hd)) ∧ Below w.heap.size w w' :=
  (context_of.calls 3 a first hd _ w (of_some a first hd)).mono fun _ _ h => ⟨h.1, h.2.below⟩

def z0 : It := ⟨0, 0, ⟨#[]⟩⟩
/-- The element i, or the context in the place of the bottom. -/
def elAt (xs : List It) (o : Option (Int × ByteArray)) (i : Nat) : Int × ByteArray := match i, o with
  | 0, some p => p
  | i, _ => ((xs.getD i z0).ns, (xs.getD i z0).name)
theorem elAt_pos (xs : List It) (o : Option (Int × ByteArray)) {m : Nat} (h : 0 < m) {x : It} (hx : xs.getD m z0 = x) : elAt xs o m = (x.ns, x.name) := by
  subst hx
  cases m with
  | zero => omega
  | succ m => rfl
theorem elAt_none (xs : List It) (m : Nat) {x : It} (hx : xs.getD m z0 = x) : elAt xs none m = (x.ns, x.name) := by
  subst hx
  cases m <;> rfl
def modeOf (p : Int × ByteArray) (i : Nat) (tmpl : Int) (hd : Bool) : Option Int :=
  if p.1 ≠ 1 then none else if p.2.toList = [116, 101, 109, 112, 108, 97, 116, 101] then some tmpl else if ofL p.2 (decide (i = 0)) hd = 0 then none else some (ofL p.2 (decide (i = 0)) hd)
def res (xs : List It) (o : Option (Int × ByteArray)) (tmpl : Int) (hd : Bool) : Nat → Int
  | 0 => 6
  | i + 1 => match modeOf (elAt xs o i) i tmpl hd with | some m => m | none => res xs o tmpl hd i
theorem res_none {xs : List It} {o : Option (Int × ByteArray)} {tmpl : Int} {hd : Bool} {i : Nat} (h : modeOf (elAt xs o i) i tmpl hd = none) : res xs o tmpl hd (i + 1) = res xs o tmpl hd i := by
  show (match modeOf (elAt xs o i) i tmpl hd with | some m => m | none => res xs o tmpl hd i) = _
  rw [h]
theorem res_some {xs : List It} {o : Option (Int × ByteArray)} {tmpl : Int} {hd : Bool} {i : Nat} {m : Int} (h : modeOf (elAt xs o i) i tmpl hd = some m) : res xs o tmpl hd (i + 1) = m := by
  show (match modeOf (elAt xs o i) i tmpl hd with | some m => m | none => res xs o tmpl hd i) = _
  rw [h]
/-- A pointer to a context, or nil. -/
def CtxP (v : Value) (o : Option (Int × ByteArray)) (w : World) : Prop := match o with
  | none => v = .pointer none
  | some p => ∃ b, v = .pointer (some ⟨b, 0, none⟩) ∧ w.cell? ⟨b, 0, none⟩ = some (.int .i64 p.1) ∧ w.cell? ⟨b, 1, none⟩ = some (.string p.2)
theorem CtxP.below {v : Value} {o : Option (Int × ByteArray)} {w w' : World} (h : CtxP v o w) (hb : Below w.heap.size w w') : CtxP v o w' := by
  unfold CtxP at *
  cases o with
  | none => exact h
  | some p =>
    obtain ⟨b, e, h0, h1⟩ := h
    exact ⟨b, e, (hb.cell (World.block_lt_of_cell? _ _ h0)).trans h0, (hb.cell (World.block_lt_of_cell? _ _ h1)).trans h1⟩

set_option maxHeartbeats 8000000 in
set_option maxRecDepth 100000 in
theorem resetN (base g s : Nat) (v : Value) (xs : List It) (tmpl : Int) (hd : Bool) (w : World) (hl : Lst base g s v xs w) (hn : xs.length ≤ 1000) :
    Calls Try.prog 19 #[.pointer (some ⟨g, 0, none⟩), .pointer none, .int .i64 tmpl, .bool hd] w fun e w' => e = .returned (.int .i64 (res xs none tmpl hd xs.length)) ∧ Below w.heap.size w w' := by
  have HL := hide hl
  have ew : IntKind.i64.wrap ((xs.length : Int) - 1) = (xs.length : Int) - 1 := IntWalk.i64_in _ (by omega)
  clear hl
  go_enter Try.func19, Try.ntmps19
  go_wp2_with fail
  refine (llen base g s v xs w HL.out).mono ?_
  rintro e w1 ⟨rfl, hb⟩
  have HB1 := hide hb
  clear hb
  dsimp only
  go_wp2_with fail
  go_loopw [9] (fun i wr => ∃ j : Nat, j ≤ xs.length ∧ i = .int .i64 ((j : Int) - 1) ∧ Aside0 (res xs none tmpl hd xs.length = res xs none tmpl hd j) ∧ Aside0 (Below w.heap.size w wr)) (fun i _ => (intOf i + 1).toNat)
  case atStart => exact ⟨xs.length, Nat.le_refl _, rfl, ⟨rfl⟩, ⟨HB1.out⟩⟩
  case round =>
    clear HB1 ew
    obtain ⟨j, hj, rfl, HR, HB⟩ := hrel
    match j, hj, HR with
    | 0, hj, HR =>
      have t : ¬ (0 : Int) ≤ ((0 : Nat) : Int) - 1 := by omega
      have t2 : ((0 : Nat) : Int) - 1 < 0 := by omega
      go_wp2_with fail
      go_ret
      rw [HR.out]
      exact ⟨rfl, HB.out⟩
    | m + 1, hj, HR =>
      rw [show ((m + 1 : Nat) : Int) - 1 = (m : Int) by omega]
      have hm0 : (0 : Int) ≤ (m : Int) := by omega
      obtain ⟨x, hx⟩ : ∃ x, xs[m]? = some x := ⟨xs[m], List.getElem?_eq_getElem (by omega)⟩
      have hlat := lat base g s v xs wr (HL.out.below HB.out) m x hx
      have hgx : xs.getD m z0 = x := by rw [List.getD_eq_getElem?_getD, hx]; rfl
      obtain ⟨xh, xns, xnm⟩ := x
      unfold itV at hlat
      dsimp only at hlat
      have HLAT := hide hlat
      have HGX := hide hgx
      have ew2 : IntKind.i64.wrap ((m : Int) - 1) = (m : Int) - 1 := IntWalk.i64_in _ (by omega)
      clear hlat hgx hx
      rcases Nat.eq_zero_or_pos m with h0 | hpos
      · subst h0
        have hel : elAt xs none 0 = (xns, xnm) := elAt_none xs 0 HGX.out
        have hdm : decide (0 = 0) = true := rfl
        by_cases q1 : xns = 1
        · subst q1
          by_cases q2 : xnm.toList = [116, 101, 109, 112, 108, 97, 116, 101]
          · have HEL := hide (show modeOf (elAt xs none 0) 0 tmpl hd = some tmpl by rw [hel]; unfold modeOf; rw [if_neg (by simp), if_pos q2])
            have qb : (xnm.toList == [116, 101, 109, 112, 108, 97, 116, 101]) = true := beq_iff_eq.2 q2
            clear hel hdm
            go_wp2_with fail
            refine HLAT.out.mono ?_
            rintro e w2 ⟨rfl, hb2⟩
            have HB2 := hide (below_step HB.out hb2)
            have HBN := hide (below_step (below_step HB.out hb2) (below_alloc (Below.refl w2.heap.size w2) (.cells #[.int .i64 xh, .int .i64 1, .string xnm, .slice none 0 0] 52)))
            clear hb2
            dsimp only
            go_wp2_with fail
            obtain ⟨wX, hX⟩ : ∃ wX, w2.alloc (.cells #[.int .i64 xh, .int .i64 1, .string xnm, .slice none 0 0] 52) = wX := ⟨_, rfl⟩
            have hnew : wX.heap[w2.heap.size]? = some (.cells #[.int .i64 xh, .int .i64 1, .string xnm, .slice none 0 0] 52 (0, 0)) := by rw [← hX]; exact heap_alloc_new w2 _
            rw [hX] at HBN ⊢
            clear hX
            have y1 : wX.cell? ⟨w2.heap.size, 1, none⟩ = some (.int .i64 1) := cell_of_row wX _ 1 _ _ _ hnew
            have y2 : wX.cell? ⟨w2.heap.size, 2, none⟩ = some (.string xnm) := cell_of_row wX _ 2 _ _ _ hnew
            clear hnew
            go_quiet (fail)
            have HBQ := hide (pw_below_drewN HBN.out nq)
            obtain ⟨wQ, hQ⟩ : ∃ wQ, wX.drewN nq = wQ := ⟨_, rfl⟩
            rw [hQ] at HBQ ⊢
            clear hQ y1 y2 HBN HB2 HB
            go_wp2_with fail
            go_ret
            rw [HR.out]
            refine ⟨?_, HBQ.out⟩
            rw [res_some HEL.out]
            rfl
          · have qb : (xnm.toList == [116, 101, 109, 112, 108, 97, 116, 101]) = false := beq_eq_false_iff_ne.2 q2
            obtain ⟨mo, hmo⟩ : ∃ mo, ofL xnm true hd = mo := ⟨_, rfl⟩
            by_cases q3 : mo = 0
            · subst q3
              have HEL := hide (show modeOf (elAt xs none 0) 0 tmpl hd = none by rw [hel]; unfold modeOf; rw [if_neg (by simp), if_neg q2, hdm, if_pos hmo])
              have HOF := hide hmo
              clear hel hdm hmo
              go_wp2_with fail
              refine HLAT.out.mono ?_
              rintro e w2 ⟨rfl, hb2⟩
              have HB2 := hide (below_step HB.out hb2)
              have HBN := hide (below_step (below_step HB.out hb2) (below_alloc (Below.refl w2.heap.size w2) (.cells #[.int .i64 xh, .int .i64 1, .string xnm, .slice none 0 0] 52)))
              clear hb2
              dsimp only
              go_wp2_with fail
              obtain ⟨wX, hX⟩ : ∃ wX, w2.alloc (.cells #[.int .i64 xh, .int .i64 1, .string xnm, .slice none 0 0] 52) = wX := ⟨_, rfl⟩
              have hnew : wX.heap[w2.heap.size]? = some (.cells #[.int .i64 xh, .int .i64 1, .string xnm, .slice none 0 0] 52 (0, 0)) := by rw [← hX]; exact heap_alloc_new w2 _
              rw [hX] at HBN ⊢
              clear hX
              have y1 : wX.cell? ⟨w2.heap.size, 1, none⟩ = some (.int .i64 1) := cell_of_row wX _ 1 _ _ _ hnew
              have y2 : wX.cell? ⟨w2.heap.size, 2, none⟩ = some (.string xnm) := cell_of_row wX _ 2 _ _ _ hnew
              clear hnew
              go_quiet (fail)
              have HBQ := hide (pw_below_drewN HBN.out nq)
              obtain ⟨wQ, hQ⟩ : ∃ wQ, wX.drewN nq = wQ := ⟨_, rfl⟩
              rw [hQ] at HBQ ⊢
              clear hQ y1 y2 HBN HB2 HB
              go_wp2_with fail
              refine (ofW xnm true hd wQ).mono ?_
              rintro e w5 ⟨rfl, hb5⟩
              rw [HOF.out]
              have HB5 := hide (below_step HBQ.out hb5)
              clear hb5 HBQ
              dsimp only
              go_wp2_with fail
              go_roundw
              case rel => exact ⟨0, by omega, by go_num, ⟨HR.out.trans (res_none HEL.out)⟩, ⟨HB5.out⟩⟩
              case measure => simp only [intOf]; omega
            · have HEL := hide (show modeOf (elAt xs none 0) 0 tmpl hd = some mo by rw [hel]; unfold modeOf; rw [if_neg (by simp), if_neg q2, hdm, hmo, if_neg q3])
              have HOF := hide hmo
              clear hel hdm hmo
              go_wp2_with fail
              refine HLAT.out.mono ?_
              rintro e w2 ⟨rfl, hb2⟩
              have HB2 := hide (below_step HB.out hb2)
              have HBN := hide (below_step (below_step HB.out hb2) (below_alloc (Below.refl w2.heap.size w2) (.cells #[.int .i64 xh, .int .i64 1, .string xnm, .slice none 0 0] 52)))
              clear hb2
              dsimp only
              go_wp2_with fail
              obtain ⟨wX, hX⟩ : ∃ wX, w2.alloc (.cells #[.int .i64 xh, .int .i64 1, .string xnm, .slice none 0 0] 52) = wX := ⟨_, rfl⟩
              have hnew : wX.heap[w2.heap.size]? = some (.cells #[.int .i64 xh, .int .i64 1, .string xnm, .slice none 0 0] 52 (0, 0)) := by rw [← hX]; exact heap_alloc_new w2 _
              rw [hX] at HBN ⊢
              clear hX
              have y1 : wX.cell? ⟨w2.heap.size, 1, none⟩ = some (.int .i64 1) := cell_of_row wX _ 1 _ _ _ hnew
              have y2 : wX.cell? ⟨w2.heap.size, 2, none⟩ = some (.string xnm) := cell_of_row wX _ 2 _ _ _ hnew
              clear hnew
              go_quiet (fail)
              have HBQ := hide (pw_below_drewN HBN.out nq)
              obtain ⟨wQ, hQ⟩ : ∃ wQ, wX.drewN nq = wQ := ⟨_, rfl⟩
              rw [hQ] at HBQ ⊢
              clear hQ y1 y2 HBN HB2 HB
              go_wp2_with fail
              refine (ofW xnm true hd wQ).mono ?_
              rintro e w5 ⟨rfl, hb5⟩
              rw [HOF.out]
              have HB5 := hide (below_step HBQ.out hb5)
              clear hb5 HBQ
              dsimp only
              go_wp2_with fail
              go_ret
              rw [HR.out]
              refine ⟨?_, HB5.out⟩
              rw [res_some HEL.out]
              rfl
        · have HEL := hide (show modeOf (elAt xs none 0) 0 tmpl hd = none by rw [hel]; unfold modeOf; rw [if_pos q1])
          clear hel hdm
          go_wp2_with fail
          refine HLAT.out.mono ?_
          rintro e w2 ⟨rfl, hb2⟩
          have HB2 := hide (below_step HB.out hb2)
          have HBN := hide (below_step (below_step HB.out hb2) (below_alloc (Below.refl w2.heap.size w2) (.cells #[.int .i64 xh, .int .i64 xns, .string xnm, .slice none 0 0] 52)))
          clear hb2
          dsimp only
          go_wp2_with fail
          obtain ⟨wX, hX⟩ : ∃ wX, w2.alloc (.cells #[.int .i64 xh, .int .i64 xns, .string xnm, .slice none 0 0] 52) = wX := ⟨_, rfl⟩
          have hnew : wX.heap[w2.heap.size]? = some (.cells #[.int .i64 xh, .int .i64 xns, .string xnm, .slice none 0 0] 52 (0, 0)) := by rw [← hX]; exact heap_alloc_new w2 _
          rw [hX] at HBN ⊢
          clear hX
          have y1 : wX.cell? ⟨w2.heap.size, 1, none⟩ = some (.int .i64 xns) := cell_of_row wX _ 1 _ _ _ hnew
          have y2 : wX.cell? ⟨w2.heap.size, 2, none⟩ = some (.string xnm) := cell_of_row wX _ 2 _ _ _ hnew
          clear hnew
          go_quiet (fail)
          have HBQ := hide (pw_below_drewN HBN.out nq)
          obtain ⟨wQ, hQ⟩ : ∃ wQ, wX.drewN nq = wQ := ⟨_, rfl⟩
          rw [hQ] at HBQ ⊢
          clear hQ y1 y2 HBN HB2 HB
          go_wp2_with fail
          go_roundw
          case rel => exact ⟨0, by omega, by go_num, ⟨HR.out.trans (res_none HEL.out)⟩, ⟨HBQ.out⟩⟩
          case measure => simp only [intOf]; omega
      · have mn0 : ((m : Int) == 0) = false := beq_eq_false_iff_ne.2 (by omega)
        have hel : elAt xs none m = (xns, xnm) := elAt_pos xs _ hpos HGX.out
        have hdm : decide (m = 0) = false := decide_eq_false (by omega)
        by_cases q1 : xns = 1
        · subst q1
          by_cases q2 : xnm.toList = [116, 101, 109, 112, 108, 97, 116, 101]
          · have HEL := hide (show modeOf (elAt xs none m) m tmpl hd = some tmpl by rw [hel]; unfold modeOf; rw [if_neg (by simp), if_pos q2])
            have qb : (xnm.toList == [116, 101, 109, 112, 108, 97, 116, 101]) = true := beq_iff_eq.2 q2
            clear hel hdm
            go_wp2_with fail
            refine HLAT.out.mono ?_
            rintro e w2 ⟨rfl, hb2⟩
            have HB2 := hide (below_step HB.out hb2)
            have HBN := hide (below_step (below_step HB.out hb2) (below_alloc (Below.refl w2.heap.size w2) (.cells #[.int .i64 xh, .int .i64 1, .string xnm, .slice none 0 0] 52)))
            clear hb2
            dsimp only
            go_wp2_with fail
            obtain ⟨wX, hX⟩ : ∃ wX, w2.alloc (.cells #[.int .i64 xh, .int .i64 1, .string xnm, .slice none 0 0] 52) = wX := ⟨_, rfl⟩
            have hnew : wX.heap[w2.heap.size]? = some (.cells #[.int .i64 xh, .int .i64 1, .string xnm, .slice none 0 0] 52 (0, 0)) := by rw [← hX]; exact heap_alloc_new w2 _
            rw [hX] at HBN ⊢
            clear hX
            have y1 : wX.cell? ⟨w2.heap.size, 1, none⟩ = some (.int .i64 1) := cell_of_row wX _ 1 _ _ _ hnew
            have y2 : wX.cell? ⟨w2.heap.size, 2, none⟩ = some (.string xnm) := cell_of_row wX _ 2 _ _ _ hnew
            clear hnew
            go_quiet (fail)
            have HBQ := hide (pw_below_drewN HBN.out nq)
            obtain ⟨wQ, hQ⟩ : ∃ wQ, wX.drewN nq = wQ := ⟨_, rfl⟩
            rw [hQ] at HBQ ⊢
            clear hQ y1 y2 HBN HB2 HB
            go_wp2_with fail
            go_ret
            rw [HR.out]
            refine ⟨?_, HBQ.out⟩
            rw [res_some HEL.out]
            rfl
          · have qb : (xnm.toList == [116, 101, 109, 112, 108, 97, 116, 101]) = false := beq_eq_false_iff_ne.2 q2
            obtain ⟨mo, hmo⟩ : ∃ mo, ofL xnm false hd = mo := ⟨_, rfl⟩
            by_cases q3 : mo = 0
            · subst q3
              have HEL := hide (show modeOf (elAt xs none m) m tmpl hd = none by rw [hel]; unfold modeOf; rw [if_neg (by simp), if_neg q2, hdm, if_pos hmo])
              have HOF := hide hmo
              clear hel hdm hmo
              go_wp2_with fail
              refine HLAT.out.mono ?_
              rintro e w2 ⟨rfl, hb2⟩
              have HB2 := hide (below_step HB.out hb2)
              have HBN := hide (below_step (below_step HB.out hb2) (below_alloc (Below.refl w2.heap.size w2) (.cells #[.int .i64 xh, .int .i64 1, .string xnm, .slice none 0 0] 52)))
              clear hb2
              dsimp only
              go_wp2_with fail
              obtain ⟨wX, hX⟩ : ∃ wX, w2.alloc (.cells #[.int .i64 xh, .int .i64 1, .string xnm, .slice none 0 0] 52) = wX := ⟨_, rfl⟩
              have hnew : wX.heap[w2.heap.size]? = some (.cells #[.int .i64 xh, .int .i64 1, .string xnm, .slice none 0 0] 52 (0, 0)) := by rw [← hX]; exact heap_alloc_new w2 _
              rw [hX] at HBN ⊢
              clear hX
              have y1 : wX.cell? ⟨w2.heap.size, 1, none⟩ = some (.int .i64 1) := cell_of_row wX _ 1 _ _ _ hnew
              have y2 : wX.cell? ⟨w2.heap.size, 2, none⟩ = some (.string xnm) := cell_of_row wX _ 2 _ _ _ hnew
              clear hnew
              go_quiet (fail)
              have HBQ := hide (pw_below_drewN HBN.out nq)
              obtain ⟨wQ, hQ⟩ : ∃ wQ, wX.drewN nq = wQ := ⟨_, rfl⟩
              rw [hQ] at HBQ ⊢
              clear hQ y1 y2 HBN HB2 HB
              go_wp2_with fail
              refine (ofW xnm false hd wQ).mono ?_
              rintro e w5 ⟨rfl, hb5⟩
              rw [HOF.out]
              have HB5 := hide (below_step HBQ.out hb5)
              clear hb5 HBQ
              dsimp only
              go_wp2_with fail
              go_roundw
              case rel => exact ⟨m, by omega, by go_num, ⟨HR.out.trans (res_none HEL.out)⟩, ⟨HB5.out⟩⟩
              case measure => simp only [intOf]; omega
            · have HEL := hide (show modeOf (elAt xs none m) m tmpl hd = some mo by rw [hel]; unfold modeOf; rw [if_neg (by simp), if_neg q2, hdm, hmo, if_neg q3])
              have HOF := hide hmo
              clear hel hdm hmo
              go_wp2_with fail
              refine HLAT.out.mono ?_
              rintro e w2 ⟨rfl, hb2⟩
              have HB2 := hide (below_step HB.out hb2)
              have HBN := hide (below_step (below_step HB.out hb2) (below_alloc (Below.refl w2.heap.size w2) (.cells #[.int .i64 xh, .int .i64 1, .string xnm, .slice none 0 0] 52)))
              clear hb2
              dsimp only
              go_wp2_with fail
              obtain ⟨wX, hX⟩ : ∃ wX, w2.alloc (.cells #[.int .i64 xh, .int .i64 1, .string xnm, .slice none 0 0] 52) = wX := ⟨_, rfl⟩
              have hnew : wX.heap[w2.heap.size]? = some (.cells #[.int .i64 xh, .int .i64 1, .string xnm, .slice none 0 0] 52 (0, 0)) := by rw [← hX]; exact heap_alloc_new w2 _
              rw [hX] at HBN ⊢
              clear hX
              have y1 : wX.cell? ⟨w2.heap.size, 1, none⟩ = some (.int .i64 1) := cell_of_row wX _ 1 _ _ _ hnew
              have y2 : wX.cell? ⟨w2.heap.size, 2, none⟩ = some (.string xnm) := cell_of_row wX _ 2 _ _ _ hnew
              clear hnew
              go_quiet (fail)
              have HBQ := hide (pw_below_drewN HBN.out nq)
              obtain ⟨wQ, hQ⟩ : ∃ wQ, wX.drewN nq = wQ := ⟨_, rfl⟩
              rw [hQ] at HBQ ⊢
              clear hQ y1 y2 HBN HB2 HB
              go_wp2_with fail
              refine (ofW xnm false hd wQ).mono ?_
              rintro e w5 ⟨rfl, hb5⟩
              rw [HOF.out]
              have HB5 := hide (below_step HBQ.out hb5)
              clear hb5 HBQ
              dsimp only
              go_wp2_with fail
              go_ret
              rw [HR.out]
              refine ⟨?_, HB5.out⟩
              rw [res_some HEL.out]
              rfl
        · have HEL := hide (show modeOf (elAt xs none m) m tmpl hd = none by rw [hel]; unfold modeOf; rw [if_pos q1])
          clear hel hdm
          go_wp2_with fail
          refine HLAT.out.mono ?_
          rintro e w2 ⟨rfl, hb2⟩
          have HB2 := hide (below_step HB.out hb2)
          have HBN := hide (below_step (below_step HB.out hb2) (below_alloc (Below.refl w2.heap.size w2) (.cells #[.int .i64 xh, .int .i64 xns, .string xnm, .slice none 0 0] 52)))
          clear hb2
          dsimp only
          go_wp2_with fail
          obtain ⟨wX, hX⟩ : ∃ wX, w2.alloc (.cells #[.int .i64 xh, .int .i64 xns, .string xnm, .slice none 0 0] 52) = wX := ⟨_, rfl⟩
          have hnew : wX.heap[w2.heap.size]? = some (.cells #[.int .i64 xh, .int .i64 xns, .string xnm, .slice none 0 0] 52 (0, 0)) := by rw [← hX]; exact heap_alloc_new w2 _
          rw [hX] at HBN ⊢
          clear hX
          have y1 : wX.cell? ⟨w2.heap.size, 1, none⟩ = some (.int .i64 xns) := cell_of_row wX _ 1 _ _ _ hnew
          have y2 : wX.cell? ⟨w2.heap.size, 2, none⟩ = some (.string xnm) := cell_of_row wX _ 2 _ _ _ hnew
          clear hnew
          go_quiet (fail)
          have HBQ := hide (pw_below_drewN HBN.out nq)
          obtain ⟨wQ, hQ⟩ : ∃ wQ, wX.drewN nq = wQ := ⟨_, rfl⟩
          rw [hQ] at HBQ ⊢
          clear hQ y1 y2 HBN HB2 HB
          go_wp2_with fail
          go_roundw
          case rel => exact ⟨m, by omega, by go_num, ⟨HR.out.trans (res_none HEL.out)⟩, ⟨HBQ.out⟩⟩
          case measure => simp only [intOf]; omega

set_option maxHeartbeats 8000000 in
set_option maxRecDepth 100000 in
theorem resetS (base g s : Nat) (v : Value) (xs : List It) (b0 : Nat) (ns : Int) (nmv : ByteArray) (tmpl : Int) (hd : Bool) (w : World) (hl : Lst base g s v xs w) (hc : CtxP (.pointer (some ⟨b0, 0, none⟩)) (some (ns, nmv)) w) (hn : xs.length ≤ 1000) :
    Calls Try.prog 19 #[.pointer (some ⟨g, 0, none⟩), .pointer (some ⟨b0, 0, none⟩), .int .i64 tmpl, .bool hd] w fun e w' => e = .returned (.int .i64 (res xs (some (ns, nmv)) tmpl hd xs.length)) ∧ Below w.heap.size w w' := by
  have HL := hide hl
  have HC := hide hc
  have ew : IntKind.i64.wrap ((xs.length : Int) - 1) = (xs.length : Int) - 1 := IntWalk.i64_in _ (by omega)
  clear hl hc
  go_enter Try.func19, Try.ntmps19
  go_wp2_with fail
  refine (llen base g s v xs w HL.out).mono ?_
  rintro e w1 ⟨rfl, hb⟩
  have HB1 := hide hb
  clear hb
  dsimp only
  go_wp2_with fail
  go_loopw [9] (fun i wr => ∃ j : Nat, j ≤ xs.length ∧ i = .int .i64 ((j : Int) - 1) ∧ Aside0 (res xs (some (ns, nmv)) tmpl hd xs.length = res xs (some (ns, nmv)) tmpl hd j) ∧ Aside0 (Below w.heap.size w wr)) (fun i _ => (intOf i + 1).toNat)
  case atStart => exact ⟨xs.length, Nat.le_refl _, rfl, ⟨rfl⟩, ⟨HB1.out⟩⟩
  case round =>
    clear HB1 ew
    obtain ⟨j, hj, rfl, HR, HB⟩ := hrel
    match j, hj, HR with
    | 0, hj, HR =>
      have t : ¬ (0 : Int) ≤ ((0 : Nat) : Int) - 1 := by omega
      have t2 : ((0 : Nat) : Int) - 1 < 0 := by omega
      go_wp2_with fail
      go_ret
      rw [HR.out]
      exact ⟨rfl, HB.out⟩
    | m + 1, hj, HR =>
      rw [show ((m + 1 : Nat) : Int) - 1 = (m : Int) by omega]
      have hm0 : (0 : Int) ≤ (m : Int) := by omega
      obtain ⟨x, hx⟩ : ∃ x, xs[m]? = some x := ⟨xs[m], List.getElem?_eq_getElem (by omega)⟩
      have hlat := lat base g s v xs wr (HL.out.below HB.out) m x hx
      have hgx : xs.getD m z0 = x := by rw [List.getD_eq_getElem?_getD, hx]; rfl
      obtain ⟨xh, xns, xnm⟩ := x
      unfold itV at hlat
      dsimp only at hlat
      have HLAT := hide hlat
      have HGX := hide hgx
      have ew2 : IntKind.i64.wrap ((m : Int) - 1) = (m : Int) - 1 := IntWalk.i64_in _ (by omega)
      clear hlat hgx hx
      rcases Nat.eq_zero_or_pos m with h0 | hpos
      · subst h0
        have hel : elAt xs (some (ns, nmv)) 0 = (ns, nmv) := rfl
        have hdm : decide (0 = 0) = true := rfl
        by_cases q1 : ns = 1
        · subst q1
          by_cases q2 : nmv.toList = [116, 101, 109, 112, 108, 97, 116, 101]
          · have HEL := hide (show modeOf (elAt xs (some ((1 : Int), nmv)) 0) 0 tmpl hd = some tmpl by rw [hel]; unfold modeOf; rw [if_neg (by simp), if_pos q2])
            have qb : (nmv.toList == [116, 101, 109, 112, 108, 97, 116, 101]) = true := beq_iff_eq.2 q2
            clear hel hdm
            go_wp2_with fail
            refine HLAT.out.mono ?_
            rintro e w2 ⟨rfl, hb2⟩
            have HB2 := hide (below_step HB.out hb2)
            have HBN := hide (below_step (below_step HB.out hb2) (below_alloc (Below.refl w2.heap.size w2) (.cells #[.int .i64 xh, .int .i64 xns, .string xnm, .slice none 0 0] 52)))
            clear hb2
            dsimp only
            go_wp2_with fail
            obtain ⟨wX, hX⟩ : ∃ wX, w2.alloc (.cells #[.int .i64 xh, .int .i64 xns, .string xnm, .slice none 0 0] 52) = wX := ⟨_, rfl⟩
            have hnew : wX.heap[w2.heap.size]? = some (.cells #[.int .i64 xh, .int .i64 xns, .string xnm, .slice none 0 0] 52 (0, 0)) := by rw [← hX]; exact heap_alloc_new w2 _
            rw [hX] at HBN ⊢
            clear hX
            have y1 : wX.cell? ⟨w2.heap.size, 1, none⟩ = some (.int .i64 xns) := cell_of_row wX _ 1 _ _ _ hnew
            have y2 : wX.cell? ⟨w2.heap.size, 2, none⟩ = some (.string xnm) := cell_of_row wX _ 2 _ _ _ hnew
            clear hnew
            go_quiet (fail)
            have HBQ := hide (pw_below_drewN HBN.out nq)
            obtain ⟨wQ, hQ⟩ : ∃ wQ, wX.drewN nq = wQ := ⟨_, rfl⟩
            rw [hQ] at HBQ ⊢
            clear hQ y1 y2 HBN HB2 HB
            obtain ⟨bq, hbq, hq0, hq1⟩ : CtxP (.pointer (some ⟨b0, 0, none⟩)) (some ((1 : Int), nmv)) wQ := HC.out.below HBQ.out
            cases hbq
            dsimp only at hq0 hq1
            go_wp2_with fail
            go_quiet (fail)
            have HBR := hide (pw_below_drewN HBQ.out nq)
            obtain ⟨wR, hR⟩ : ∃ wR, wQ.drewN nq = wR := ⟨_, rfl⟩
            rw [hR] at HBR ⊢
            clear hR hq0 hq1
            go_wp2_with fail
            go_ret
            rw [HR.out]
            refine ⟨?_, HBR.out⟩
            rw [res_some HEL.out]
            rfl
          · have qb : (nmv.toList == [116, 101, 109, 112, 108, 97, 116, 101]) = false := beq_eq_false_iff_ne.2 q2
            obtain ⟨mo, hmo⟩ : ∃ mo, ofL nmv true hd = mo := ⟨_, rfl⟩
            by_cases q3 : mo = 0
            · subst q3
              have HEL := hide (show modeOf (elAt xs (some ((1 : Int), nmv)) 0) 0 tmpl hd = none by rw [hel]; unfold modeOf; rw [if_neg (by simp), if_neg q2, hdm, if_pos hmo])
              have HOF := hide hmo
              clear hel hdm hmo
              go_wp2_with fail
              refine HLAT.out.mono ?_
              rintro e w2 ⟨rfl, hb2⟩
              have HB2 := hide (below_step HB.out hb2)
              have HBN := hide (below_step (below_step HB.out hb2) (below_alloc (Below.refl w2.heap.size w2) (.cells #[.int .i64 xh, .int .i64 xns, .string xnm, .slice none 0 0] 52)))
              clear hb2
              dsimp only
              go_wp2_with fail
              obtain ⟨wX, hX⟩ : ∃ wX, w2.alloc (.cells #[.int .i64 xh, .int .i64 xns, .string xnm, .slice none 0 0] 52) = wX := ⟨_, rfl⟩
              have hnew : wX.heap[w2.heap.size]? = some (.cells #[.int .i64 xh, .int .i64 xns, .string xnm, .slice none 0 0] 52 (0, 0)) := by rw [← hX]; exact heap_alloc_new w2 _
              rw [hX] at HBN ⊢
              clear hX
              have y1 : wX.cell? ⟨w2.heap.size, 1, none⟩ = some (.int .i64 xns) := cell_of_row wX _ 1 _ _ _ hnew
              have y2 : wX.cell? ⟨w2.heap.size, 2, none⟩ = some (.string xnm) := cell_of_row wX _ 2 _ _ _ hnew
              clear hnew
              go_quiet (fail)
              have HBQ := hide (pw_below_drewN HBN.out nq)
              obtain ⟨wQ, hQ⟩ : ∃ wQ, wX.drewN nq = wQ := ⟨_, rfl⟩
              rw [hQ] at HBQ ⊢
              clear hQ y1 y2 HBN HB2 HB
              obtain ⟨bq, hbq, hq0, hq1⟩ : CtxP (.pointer (some ⟨b0, 0, none⟩)) (some ((1 : Int), nmv)) wQ := HC.out.below HBQ.out
              cases hbq
              dsimp only at hq0 hq1
              go_wp2_with fail
              go_quiet (fail)
              have HBR := hide (pw_below_drewN HBQ.out nq)
              obtain ⟨wR, hR⟩ : ∃ wR, wQ.drewN nq = wR := ⟨_, rfl⟩
              rw [hR] at HBR ⊢
              clear hR hq0 hq1
              go_wp2_with fail
              refine (ofW nmv true hd wR).mono ?_
              rintro e w5 ⟨rfl, hb5⟩
              rw [HOF.out]
              have HB5 := hide (below_step HBR.out hb5)
              clear hb5 HBR
              dsimp only
              go_wp2_with fail
              go_roundw
              case rel => exact ⟨0, by omega, by go_num, ⟨HR.out.trans (res_none HEL.out)⟩, ⟨HB5.out⟩⟩
              case measure => simp only [intOf]; omega
            · have HEL := hide (show modeOf (elAt xs (some ((1 : Int), nmv)) 0) 0 tmpl hd = some mo by rw [hel]; unfold modeOf; rw [if_neg (by simp), if_neg q2, hdm, hmo, if_neg q3])
              have HOF := hide hmo
              clear hel hdm hmo
              go_wp2_with fail
              refine HLAT.out.mono ?_
              rintro e w2 ⟨rfl, hb2⟩
              have HB2 := hide (below_step HB.out hb2)
              have HBN := hide (below_step (below_step HB.out hb2) (below_alloc (Below.refl w2.heap.size w2) (.cells #[.int .i64 xh, .int .i64 xns, .string xnm, .slice none 0 0] 52)))
              clear hb2
              dsimp only
              go_wp2_with fail
              obtain ⟨wX, hX⟩ : ∃ wX, w2.alloc (.cells #[.int .i64 xh, .int .i64 xns, .string xnm, .slice none 0 0] 52) = wX := ⟨_, rfl⟩
              have hnew : wX.heap[w2.heap.size]? = some (.cells #[.int .i64 xh, .int .i64 xns, .string xnm, .slice none 0 0] 52 (0, 0)) := by rw [← hX]; exact heap_alloc_new w2 _
              rw [hX] at HBN ⊢
              clear hX
              have y1 : wX.cell? ⟨w2.heap.size, 1, none⟩ = some (.int .i64 xns) := cell_of_row wX _ 1 _ _ _ hnew
              have y2 : wX.cell? ⟨w2.heap.size, 2, none⟩ = some (.string xnm) := cell_of_row wX _ 2 _ _ _ hnew
              clear hnew
              go_quiet (fail)
              have HBQ := hide (pw_below_drewN HBN.out nq)
              obtain ⟨wQ, hQ⟩ : ∃ wQ, wX.drewN nq = wQ := ⟨_, rfl⟩
              rw [hQ] at HBQ ⊢
              clear hQ y1 y2 HBN HB2 HB
              obtain ⟨bq, hbq, hq0, hq1⟩ : CtxP (.pointer (some ⟨b0, 0, none⟩)) (some ((1 : Int), nmv)) wQ := HC.out.below HBQ.out
              cases hbq
              dsimp only at hq0 hq1
              go_wp2_with fail
              go_quiet (fail)
              have HBR := hide (pw_below_drewN HBQ.out nq)
              obtain ⟨wR, hR⟩ : ∃ wR, wQ.drewN nq = wR := ⟨_, rfl⟩
              rw [hR] at HBR ⊢
              clear hR hq0 hq1
              go_wp2_with fail
              refine (ofW nmv true hd wR).mono ?_
              rintro e w5 ⟨rfl, hb5⟩
              rw [HOF.out]
              have HB5 := hide (below_step HBR.out hb5)
              clear hb5 HBR
              dsimp only
              go_wp2_with fail
              go_ret
              rw [HR.out]
              refine ⟨?_, HB5.out⟩
              rw [res_some HEL.out]
              rfl
        · have HEL := hide (show modeOf (elAt xs (some (ns, nmv)) 0) 0 tmpl hd = none by rw [hel]; unfold modeOf; rw [if_pos q1])
          clear hel hdm
          go_wp2_with fail
          refine HLAT.out.mono ?_
          rintro e w2 ⟨rfl, hb2⟩
          have HB2 := hide (below_step HB.out hb2)
          have HBN := hide (below_step (below_step HB.out hb2) (below_alloc (Below.refl w2.heap.size w2) (.cells #[.int .i64 xh, .int .i64 xns, .string xnm, .slice none 0 0] 52)))
          clear hb2
          dsimp only
          go_wp2_with fail
          obtain ⟨wX, hX⟩ : ∃ wX, w2.alloc (.cells #[.int .i64 xh, .int .i64 xns, .string xnm, .slice none 0 0] 52) = wX := ⟨_, rfl⟩
          have hnew : wX.heap[w2.heap.size]? = some (.cells #[.int .i64 xh, .int .i64 xns, .string xnm, .slice none 0 0] 52 (0, 0)) := by rw [← hX]; exact heap_alloc_new w2 _
          rw [hX] at HBN ⊢
          clear hX
          have y1 : wX.cell? ⟨w2.heap.size, 1, none⟩ = some (.int .i64 xns) := cell_of_row wX _ 1 _ _ _ hnew
          have y2 : wX.cell? ⟨w2.heap.size, 2, none⟩ = some (.string xnm) := cell_of_row wX _ 2 _ _ _ hnew
          clear hnew
          go_quiet (fail)
          have HBQ := hide (pw_below_drewN HBN.out nq)
          obtain ⟨wQ, hQ⟩ : ∃ wQ, wX.drewN nq = wQ := ⟨_, rfl⟩
          rw [hQ] at HBQ ⊢
          clear hQ y1 y2 HBN HB2 HB
          obtain ⟨bq, hbq, hq0, hq1⟩ : CtxP (.pointer (some ⟨b0, 0, none⟩)) (some (ns, nmv)) wQ := HC.out.below HBQ.out
          cases hbq
          dsimp only at hq0 hq1
          go_wp2_with fail
          go_quiet (fail)
          have HBR := hide (pw_below_drewN HBQ.out nq)
          obtain ⟨wR, hR⟩ : ∃ wR, wQ.drewN nq = wR := ⟨_, rfl⟩
          rw [hR] at HBR ⊢
          clear hR hq0 hq1
          go_wp2_with fail
          go_roundw
          case rel => exact ⟨0, by omega, by go_num, ⟨HR.out.trans (res_none HEL.out)⟩, ⟨HBR.out⟩⟩
          case measure => simp only [intOf]; omega
      · have mn0 : ((m : Int) == 0) = false := beq_eq_false_iff_ne.2 (by omega)
        have hel : elAt xs (some (ns, nmv)) m = (xns, xnm) := elAt_pos xs _ hpos HGX.out
        have hdm : decide (m = 0) = false := decide_eq_false (by omega)
        by_cases q1 : xns = 1
        · subst q1
          by_cases q2 : xnm.toList = [116, 101, 109, 112, 108, 97, 116, 101]
          · have HEL := hide (show modeOf (elAt xs (some (ns, nmv)) m) m tmpl hd = some tmpl by rw [hel]; unfold modeOf; rw [if_neg (by simp), if_pos q2])
            have qb : (xnm.toList == [116, 101, 109, 112, 108, 97, 116, 101]) = true := beq_iff_eq.2 q2
            clear hel hdm
            go_wp2_with fail
            refine HLAT.out.mono ?_
            rintro e w2 ⟨rfl, hb2⟩
            have HB2 := hide (below_step HB.out hb2)
            have HBN := hide (below_step (below_step HB.out hb2) (below_alloc (Below.refl w2.heap.size w2) (.cells #[.int .i64 xh, .int .i64 1, .string xnm, .slice none 0 0] 52)))
            clear hb2
            dsimp only
            go_wp2_with fail
            obtain ⟨wX, hX⟩ : ∃ wX, w2.alloc (.cells #[.int .i64 xh, .int .i64 1, .string xnm, .slice none 0 0] 52) = wX := ⟨_, rfl⟩
            have hnew : wX.heap[w2.heap.size]? = some (.cells #[.int .i64 xh, .int .i64 1, .string xnm, .slice none 0 0] 52 (0, 0)) := by rw [← hX]; exact heap_alloc_new w2 _
            rw [hX] at HBN ⊢
            clear hX
            have y1 : wX.cell? ⟨w2.heap.size, 1, none⟩ = some (.int .i64 1) := cell_of_row wX _ 1 _ _ _ hnew
            have y2 : wX.cell? ⟨w2.heap.size, 2, none⟩ = some (.string xnm) := cell_of_row wX _ 2 _ _ _ hnew
            clear hnew
            go_quiet (fail)
            have HBQ := hide (pw_below_drewN HBN.out nq)
            obtain ⟨wQ, hQ⟩ : ∃ wQ, wX.drewN nq = wQ := ⟨_, rfl⟩
            rw [hQ] at HBQ ⊢
            clear hQ y1 y2 HBN HB2 HB
            go_wp2_with fail
            go_ret
            rw [HR.out]
            refine ⟨?_, HBQ.out⟩
            rw [res_some HEL.out]
            rfl
          · have qb : (xnm.toList == [116, 101, 109, 112, 108, 97, 116, 101]) = false := beq_eq_false_iff_ne.2 q2
            obtain ⟨mo, hmo⟩ : ∃ mo, ofL xnm false hd = mo := ⟨_, rfl⟩
            by_cases q3 : mo = 0
            · subst q3
              have HEL := hide (show modeOf (elAt xs (some (ns, nmv)) m) m tmpl hd = none by rw [hel]; unfold modeOf; rw [if_neg (by simp), if_neg q2, hdm, if_pos hmo])
              have HOF := hide hmo
              clear hel hdm hmo
              go_wp2_with fail
              refine HLAT.out.mono ?_
              rintro e w2 ⟨rfl, hb2⟩
              have HB2 := hide (below_step HB.out hb2)
              have HBN := hide (below_step (below_step HB.out hb2) (below_alloc (Below.refl w2.heap.size w2) (.cells #[.int .i64 xh, .int .i64 1, .string xnm, .slice none 0 0] 52)))
              clear hb2
              dsimp only
              go_wp2_with fail
              obtain ⟨wX, hX⟩ : ∃ wX, w2.alloc (.cells #[.int .i64 xh, .int .i64 1, .string xnm, .slice none 0 0] 52) = wX := ⟨_, rfl⟩
              have hnew : wX.heap[w2.heap.size]? = some (.cells #[.int .i64 xh, .int .i64 1, .string xnm, .slice none 0 0] 52 (0, 0)) := by rw [← hX]; exact heap_alloc_new w2 _
              rw [hX] at HBN ⊢
              clear hX
              have y1 : wX.cell? ⟨w2.heap.size, 1, none⟩ = some (.int .i64 1) := cell_of_row wX _ 1 _ _ _ hnew
              have y2 : wX.cell? ⟨w2.heap.size, 2, none⟩ = some (.string xnm) := cell_of_row wX _ 2 _ _ _ hnew
              clear hnew
              go_quiet (fail)
              have HBQ := hide (pw_below_drewN HBN.out nq)
              obtain ⟨wQ, hQ⟩ : ∃ wQ, wX.drewN nq = wQ := ⟨_, rfl⟩
              rw [hQ] at HBQ ⊢
              clear hQ y1 y2 HBN HB2 HB
              go_wp2_with fail
              refine (ofW xnm false hd wQ).mono ?_
              rintro e w5 ⟨rfl, hb5⟩
              rw [HOF.out]
              have HB5 := hide (below_step HBQ.out hb5)
              clear hb5 HBQ
              dsimp only
              go_wp2_with fail
              go_roundw
              case rel => exact ⟨m, by omega, by go_num, ⟨HR.out.trans (res_none HEL.out)⟩, ⟨HB5.out⟩⟩
              case measure => simp only [intOf]; omega
            · have HEL := hide (show modeOf (elAt xs (some (ns, nmv)) m) m tmpl hd = some mo by rw [hel]; unfold modeOf; rw [if_neg (by simp), if_neg q2, hdm, hmo, if_neg q3])
              have HOF := hide hmo
              clear hel hdm hmo
              go_wp2_with fail
              refine HLAT.out.mono ?_
              rintro e w2 ⟨rfl, hb2⟩
              have HB2 := hide (below_step HB.out hb2)
              have HBN := hide (below_step (below_step HB.out hb2) (below_alloc (Below.refl w2.heap.size w2) (.cells #[.int .i64 xh, .int .i64 1, .string xnm, .slice none 0 0] 52)))
              clear hb2
              dsimp only
              go_wp2_with fail
              obtain ⟨wX, hX⟩ : ∃ wX, w2.alloc (.cells #[.int .i64 xh, .int .i64 1, .string xnm, .slice none 0 0] 52) = wX := ⟨_, rfl⟩
              have hnew : wX.heap[w2.heap.size]? = some (.cells #[.int .i64 xh, .int .i64 1, .string xnm, .slice none 0 0] 52 (0, 0)) := by rw [← hX]; exact heap_alloc_new w2 _
              rw [hX] at HBN ⊢
              clear hX
              have y1 : wX.cell? ⟨w2.heap.size, 1, none⟩ = some (.int .i64 1) := cell_of_row wX _ 1 _ _ _ hnew
              have y2 : wX.cell? ⟨w2.heap.size, 2, none⟩ = some (.string xnm) := cell_of_row wX _ 2 _ _ _ hnew
              clear hnew
              go_quiet (fail)
              have HBQ := hide (pw_below_drewN HBN.out nq)
              obtain ⟨wQ, hQ⟩ : ∃ wQ, wX.drewN nq = wQ := ⟨_, rfl⟩
              rw [hQ] at HBQ ⊢
              clear hQ y1 y2 HBN HB2 HB
              go_wp2_with fail
              refine (ofW xnm false hd wQ).mono ?_
              rintro e w5 ⟨rfl, hb5⟩
              rw [HOF.out]
              have HB5 := hide (below_step HBQ.out hb5)
              clear hb5 HBQ
              dsimp only
              go_wp2_with fail
              go_ret
              rw [HR.out]
              refine ⟨?_, HB5.out⟩
              rw [res_some HEL.out]
              rfl
        · have HEL := hide (show modeOf (elAt xs (some (ns, nmv)) m) m tmpl hd = none by rw [hel]; unfold modeOf; rw [if_pos q1])
          clear hel hdm
          go_wp2_with fail
          refine HLAT.out.mono ?_
          rintro e w2 ⟨rfl, hb2⟩
          have HB2 := hide (below_step HB.out hb2)
          have HBN := hide (below_step (below_step HB.out hb2) (below_alloc (Below.refl w2.heap.size w2) (.cells #[.int .i64 xh, .int .i64 xns, .string xnm, .slice none 0 0] 52)))
          clear hb2
          dsimp only
          go_wp2_with fail
          obtain ⟨wX, hX⟩ : ∃ wX, w2.alloc (.cells #[.int .i64 xh, .int .i64 xns, .string xnm, .slice none 0 0] 52) = wX := ⟨_, rfl⟩
          have hnew : wX.heap[w2.heap.size]? = some (.cells #[.int .i64 xh, .int .i64 xns, .string xnm, .slice none 0 0] 52 (0, 0)) := by rw [← hX]; exact heap_alloc_new w2 _
          rw [hX] at HBN ⊢
          clear hX
          have y1 : wX.cell? ⟨w2.heap.size, 1, none⟩ = some (.int .i64 xns) := cell_of_row wX _ 1 _ _ _ hnew
          have y2 : wX.cell? ⟨w2.heap.size, 2, none⟩ = some (.string xnm) := cell_of_row wX _ 2 _ _ _ hnew
          clear hnew
          go_quiet (fail)
          have HBQ := hide (pw_below_drewN HBN.out nq)
          obtain ⟨wQ, hQ⟩ : ∃ wQ, wX.drewN nq = wQ := ⟨_, rfl⟩
          rw [hQ] at HBQ ⊢
          clear hQ y1 y2 HBN HB2 HB
          go_wp2_with fail
          go_roundw
          case rel => exact ⟨m, by omega, by go_num, ⟨HR.out.trans (res_none HEL.out)⟩, ⟨HBQ.out⟩⟩
          case measure => simp only [intOf]; omega
end Go.Proofs.Ytpofjfnlchpmbaa.Ctx
