/- The walks of context.Adjusted and context.Foreign. -/
import Derived.Test.YtpofjfnlchpmbaaCtxReset
import Derived.BigQuiet
namespace Go.Proofs.Ytpofjfnlchpmbaa.Ctx
open Go.RowKit Go.Proofs.Ytpofjfnlchpmbaa.PContextTells Go.Proofs.YtpofjfnlchpmbaaW.PrintWords Go.Proofs.YtpofjfnlchpmbaaW.PrintLast

def lastOf (xs : List It) : Int × ByteArray := ((xs.getD (xs.length - 1) z0).ns, (xs.getD (xs.length - 1) z0).name)
/-- The current element, or the context. -/
def adj (xs : List It) (o : Option (Int × ByteArray)) : Int × ByteArray := if xs.length = 0 then (0, ⟨#[]⟩) else if xs.length = 1 then o.getD (lastOf xs) else lastOf xs

set_option maxHeartbeats 4000000 in
set_option maxRecDepth 100000 in
theorem adjust (base g s : Nat) (v : Value) (xs : List It) (cv : Value) (o : Option (Int × ByteArray)) (w : World) (hl : Lst base g s v xs w) (hc : CtxP cv o w) (hn : xs.length ≤ 1000) :
    Calls Try.prog 16 #[.pointer (some ⟨g, 0, none⟩), cv] w fun e w' => e = .returned (.tuple #[.int .i64 (adj xs o).1, .string (adj xs o).2]) ∧ Below w.heap.size w w' := by
  obtain ⟨p, hp⟩ : ∃ p, adj xs o = p := ⟨_, rfl⟩
  rw [hp]
  have HL := hide hl
  have HC := hide hc
  clear hl
  by_cases h0 : xs.length = 0
  · have hb0 : ((xs.length : Int) == 0) = true := by rw [h0]; rfl
    have : p = (0, ⟨#[]⟩) := by rw [← hp]; unfold adj; rw [if_pos h0]
    subst this
    clear hp h0 hc
    go_enter Try.func16, Try.ntmps16
    go_wp2_with fail
    refine (llen base g s v xs w HL.out).mono ?_
    rintro e w1 ⟨rfl, hb⟩
    have HB1 := hide hb
    clear hb
    dsimp only
    go_wp2_with fail
    go_ret2
    exact ⟨rfl, HB1.out⟩
  · have hb0 : ((xs.length : Int) == 0) = false := beq_eq_false_iff_ne.2 (by omega)
    obtain ⟨x, hx⟩ : ∃ x, xs[xs.length - 1]? = some x := ⟨xs[xs.length - 1]'(by omega), List.getElem?_eq_getElem (by omega)⟩
    have hlast : lastOf xs = (x.ns, x.name) := by unfold lastOf; rw [List.getD_eq_getElem?_getD, hx]; rfl
    have HX := hide hx
    have HP : Hid (p = if xs.length = 1 then o.getD (x.ns, x.name) else (x.ns, x.name)) := hide (by rw [← hp]; unfold adj; rw [if_neg h0, hlast])
    obtain ⟨xh, xns, xnm⟩ := x
    dsimp only at HP
    clear hp hx hlast h0
    by_cases h1 : xs.length = 1
    · have hb1 : ((xs.length : Int) == 1) = true := by rw [h1]; rfl
      cases o with
      | some q =>
        obtain ⟨b, rfl, hc0, hc1⟩ := hc
        obtain ⟨qns, qnm⟩ := q
        dsimp only at hc0 hc1
        have hpq : p = (qns, qnm) := by rw [HP.out, if_pos h1]; rfl
        subst hpq
        clear h1 HP hc0 hc1
        go_enter Try.func16, Try.ntmps16
        go_wp2_with fail
        refine (llen base g s v xs w HL.out).mono ?_
        rintro e w1 ⟨rfl, hb⟩
        have HB1 := hide hb
        have HL1 := hide (HL.out.below hb)
        clear hb
        dsimp only
        go_wp2_with fail
        refine (llen base g s v xs w1 HL1.out).mono ?_
        rintro e w2 ⟨rfl, hb⟩
        have HB2 := hide (below_step HB1.out hb)
        clear hb HB1 HL1
        dsimp only
        obtain ⟨b', hb', hq0, hq1⟩ : CtxP (.pointer (some ⟨b, 0, none⟩)) (some (qns, qnm)) w2 := HC.out.below HB2.out
        cases hb'
        dsimp only at hq0 hq1
        go_wp2_with fail
        go_quiet (fail)
        have HBQ := hide (pw_below_drewN HB2.out nq)
        go_wp2_with fail
        go_ret2
        exact ⟨rfl, HBQ.out⟩
      | none =>
        have hcv : cv = .pointer none := hc
        subst hcv
        have hpq : p = (xns, xnm) := by rw [HP.out, if_pos h1]; rfl
        subst hpq
        clear h1 HP hc HC
        go_enter Try.func16, Try.ntmps16
        go_wp2_with fail
        refine (llen base g s v xs w HL.out).mono ?_
        rintro e w1 ⟨rfl, hb⟩
        have HB1 := hide hb
        have HL1 := hide (HL.out.below hb)
        clear hb
        dsimp only
        go_wp2_with fail
        refine (llen base g s v xs w1 HL1.out).mono ?_
        rintro e w2 ⟨rfl, hb⟩
        have HB2 := hide (below_step HB1.out hb)
        have HL2 := hide (HL1.out.below hb)
        clear hb HB1 HL1
        dsimp only
        go_wp2_with fail
        refine (ltop base g s v xs w2 HL2.out ⟨xh, xns, xnm⟩ HX.out hn).mono ?_
        rintro e w3 ⟨rfl, hb⟩
        unfold itV
        have HBN := hide (below_step (below_step HB2.out hb) (below_alloc (Below.refl w3.heap.size w3) (.cells #[.int .i64 xh, .int .i64 xns, .string xnm, .slice none 0 0] 52)))
        clear hb HB2 HL2
        dsimp only
        go_wp2_with fail
        obtain ⟨wX, hX⟩ : ∃ wX, w3.alloc (.cells #[.int .i64 xh, .int .i64 xns, .string xnm, .slice none 0 0] 52) = wX := ⟨_, rfl⟩
        have hnew : wX.heap[w3.heap.size]? = some (.cells #[.int .i64 xh, .int .i64 xns, .string xnm, .slice none 0 0] 52 (0, 0)) := by rw [← hX]; exact heap_alloc_new w3 _
        rw [hX] at HBN ⊢
        clear hX
        have y1 : wX.cell? ⟨w3.heap.size, 1, none⟩ = some (.int .i64 xns) := cell_of_row wX _ 1 _ _ _ hnew
        have y2 : wX.cell? ⟨w3.heap.size, 2, none⟩ = some (.string xnm) := cell_of_row wX _ 2 _ _ _ hnew
        clear hnew
        go_quiet (fail)
        have HBQ := hide (pw_below_drewN HBN.out nq)
        go_wp2_with fail
        go_ret2
        exact ⟨rfl, HBQ.out⟩
    · have hb1 : ((xs.length : Int) == 1) = false := beq_eq_false_iff_ne.2 (by omega)
      have hpq : p = (xns, xnm) := by rw [HP.out, if_neg h1]
      subst hpq
      clear h1 HP hc HC
      go_enter Try.func16, Try.ntmps16
      go_wp2_with fail
      refine (llen base g s v xs w HL.out).mono ?_
      rintro e w1 ⟨rfl, hb⟩
      have HB1 := hide hb
      have HL1 := hide (HL.out.below hb)
      clear hb
      dsimp only
      go_wp2_with fail
      refine (llen base g s v xs w1 HL1.out).mono ?_
      rintro e w2 ⟨rfl, hb⟩
      have HB2 := hide (below_step HB1.out hb)
      have HL2 := hide (HL1.out.below hb)
      clear hb HB1 HL1
      dsimp only
      go_wp2_with fail
      refine (ltop base g s v xs w2 HL2.out ⟨xh, xns, xnm⟩ HX.out hn).mono ?_
      rintro e w3 ⟨rfl, hb⟩
      unfold itV
      have HBN := hide (below_step (below_step HB2.out hb) (below_alloc (Below.refl w3.heap.size w3) (.cells #[.int .i64 xh, .int .i64 xns, .string xnm, .slice none 0 0] 52)))
      clear hb HB2 HL2
      dsimp only
      go_wp2_with fail
      obtain ⟨wX, hX⟩ : ∃ wX, w3.alloc (.cells #[.int .i64 xh, .int .i64 xns, .string xnm, .slice none 0 0] 52) = wX := ⟨_, rfl⟩
      have hnew : wX.heap[w3.heap.size]? = some (.cells #[.int .i64 xh, .int .i64 xns, .string xnm, .slice none 0 0] 52 (0, 0)) := by rw [← hX]; exact heap_alloc_new w3 _
      rw [hX] at HBN ⊢
      clear hX
      have y1 : wX.cell? ⟨w3.heap.size, 1, none⟩ = some (.int .i64 xns) := cell_of_row wX _ 1 _ _ _ hnew
      have y2 : wX.cell? ⟨w3.heap.size, 2, none⟩ = some (.string xnm) := cell_of_row wX _ 2 _ _ _ hnew
      clear hnew
      go_quiet (fail)
      have HBQ := hide (pw_below_drewN HBN.out nq)
      go_wp2_with fail
      go_ret2
      exact ⟨rfl, HBQ.out⟩
set_option maxHeartbeats 4000000 in
set_option maxRecDepth 100000 in
theorem foreign (base g s : Nat) (v : Value) (xs : List It) (cv : Value) (o : Option (Int × ByteArray)) (w : World) (hl : Lst base g s v xs w) (hc : CtxP cv o w) (hn : xs.length ≤ 1000) :
    Calls Try.prog 24 #[.pointer (some ⟨g, 0, none⟩), cv] w fun e w' => e = .returned (.bool ((adj xs o).1 == 2)) ∧ Below w.heap.size w w' := by
  have hadj := adjust base g s v xs cv o w hl hc hn
  obtain ⟨p, hp⟩ : ∃ p, adj xs o = p := ⟨_, rfl⟩
  rw [hp] at hadj ⊢
  obtain ⟨a, b⟩ := p
  have HA := hide hadj
  clear hp hadj hl hc
  go_enter Try.func24, Try.ntmps24
  go_wp2_with fail
  refine HA.out.mono ?_
  rintro e w1 ⟨rfl, hb⟩
  have HB := hide hb
  clear hb
  dsimp only
  go_wp2_with fail
  go_ret
  exact ⟨rfl, HB.out⟩
end Go.Proofs.Ytpofjfnlchpmbaa.Ctx
