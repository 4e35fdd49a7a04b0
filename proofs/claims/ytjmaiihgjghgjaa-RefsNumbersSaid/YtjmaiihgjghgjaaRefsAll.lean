import Derived.Test.YtjmaiihgjghgjaaRefsTable
namespace Go.Proofs.Ytjmaiihgjghgjaa.RefsRef
open Go.RowKit Go.Proofs.Ytjmaiihgjghgjaa.PRefsLongest Go.Proofs.Ytjmaiihgjghgjaa.Pure Go.Proofs.Ytjmaiihgjghgjaa.RefsNumber Go.Proofs.YtjmaiihgjghgjaaW.PrintWords Go.Proofs.YtjmaiihgjghgjaaW.PrintLast

theorem flat_get : ∀ (xs : List S40) (i : Nat) (h : i < xs.length), (xs.flatMap two)[2 * i]? = some xs[i].f0 ∧ (xs.flatMap two)[2 * i + 1]? = some xs[i].f1
  | x :: xs, 0, _ => ⟨rfl, rfl⟩
  | x :: xs, i + 1, h => by
    have := flat_get xs i (by simpa using h)
    rw [List.flatMap_cons]
    rw [show 2 * (i + 1) = 2 + 2 * i by omega, show 2 + 2 * i + 1 = 2 + (2 * i + 1) by omega]
    rw [List.getElem?_append_right (by simp [two]), List.getElem?_append_right (by simp [two])]
    simpa [two] using this

def S0 : S40 := ⟨⟨#[]⟩, ⟨#[]⟩⟩
theorem c2_get (i : Nat) (h : i < 51) : C2[2 * i]? = some (.string (T.getD i S0).f0) ∧ C2[2 * i + 1]? = some (.string (T.getD i S0).f1) := by
  have hl : i < T.length := by rw [T_len]; exact h
  obtain ⟨h1, h2⟩ := flat_get T i hl
  have hg : T.getD i S0 = T[i] := by rw [List.getD_eq_getElem?_getD, List.getElem?_eq_getElem hl]; rfl
  rw [hg]
  unfold C2 T2
  rw [List.getElem?_toArray, List.getElem?_toArray, List.getElem?_map, List.getElem?_map, h1, h2]
  exact ⟨rfl, rfl⟩
theorem N_get (i : Nat) (h : i < 51) : N[i]? = some (T.getD i S0).f0 := by
  have hl : i < T.length := by rw [T_len]; exact h
  unfold N
  rw [List.getElem?_map, List.getElem?_eq_getElem hl, List.getD_eq_getElem?_getD, List.getElem?_eq_getElem hl]
  rfl
theorem N_take (k : Nat) (h : k < 51) : (N.take (k + 1)).map Value.string = (N.take k).map Value.string ++ [.string (T.getD k S0).f0] := by
  have hl : k < N.length := by rw [N_len]; exact h
  have := N_get k h
  rw [List.getElem?_eq_getElem hl] at this
  injection this with this
  rw [List.take_succ_eq_append_getElem hl, this, List.map_append]
  rfl
/-- A cell of the table, in any world that keeps it. -/
theorem cell_kept {w wr : World} (h : Below (w.heap.size + 1) (w.alloc (.cells C2 9)) wr) (j : Nat) : wr.cell? ⟨w.heap.size, j, none⟩ = C2[j]? := by
  rw [h.cell (p := ⟨w.heap.size, j, none⟩) (Nat.lt_succ_self _)]
  exact cell_of_row _ _ j C2 9 (0, 0) (heap_alloc_new _ _)

/-- What is handed back reads as these texts; what was there is as it was. -/
def TextsPost (xs : List ByteArray) (w : World) (e : Ending) (w' : World) : Prop := ∃ A c, e = .returned (.slice A xs.length c) ∧ ReadsOf Value.string ByteArray.empty w' A xs.length xs ∧ Below w.heap.size w w'

set_option maxHeartbeats 1000000 in
set_option maxRecDepth 100000 in
theorem all (w : World) : Calls Try.prog 12 #[] w (TextsPost N w) := by
  go_enter Try.func12, Try.ntmps12
  go_wp2_with (go_at_call 19; refine (table _).mono ?_; rintro e w1 ⟨rfl, rfl⟩)
  go_loopw [2, 3] (fun v i wr => ∃ (k m : Nat), Hid (m = 2 * k) ∧ k ≤ 51 ∧ m ≤ 102 ∧ i = .int .i64 m ∧ Aside0 (wr.ownsRow (w.heap.size + 1) 9 1 v k ((N.take k).map Value.string)) ∧ Aside0 (Below (w.heap.size + 1) (w.alloc (.cells C2 9)) wr)) (fun _ i _ => 102 - (intOf i).toNat)
  case atStart => exact ⟨0, 0, hide rfl, by omega, by omega, rfl, ⟨⟨by simp, .inl ⟨rfl, rfl⟩⟩⟩, ⟨Below.refl _ _⟩⟩
  case round =>
    obtain ⟨k, m, HM, hk, hm, rfl, HO, HB⟩ := hrel
    by_cases hlt : m < 102
    · have hk2 : k < 51 := by have := HM.out; omega
      have hc : wr.cell? ⟨w.heap.size, m, none⟩ = some (.string (T.getD k S0).f0) := by
        rw [cell_kept HB.out m, HM.out]
        exact (c2_get k hk2).1
      have HT := hide (N_take k hk2)
      have em : m + 2 = 2 * (k + 1) := by have h := HM.out; omega
      have HM2 := hide em
      have hm2 : m + 2 ≤ 102 := by omega
      clear em
      obtain ⟨y, hy⟩ : ∃ y, (T.getD k S0).f0 = y := ⟨_, rfl⟩
      rw [hy] at hc
      have HY := hide hy
      clear hy
      have hbase : w.heap.size + 1 ≤ wr.heap.size := by have := HB.out.size; simpa using this
      go_wp2_with (at_builtin; refine print_append_cells (w0 := w.alloc (.cells C2 9)) (w.heap.size + 1) rfl (.tmp 11) (.tmp 16) 22 9 (.string ⟨#[]⟩) 1 16 rfl Try.underlying22 info9s rfl (by decide) (by decide) _ k ((N.take k).map Value.string) [.string y] rfl rfl rfl ?h1 HO.out HB.out hbase (by omega) ?_; (case h1 => intro u hu; rw [List.mem_singleton.1 hu]; rfl); intro v1 w1 ho hb hg hown; have HO1 := hide ho; have HB1 := hide hb; clear ho hb hg hown)
      go_roundw
      case rel => exact ⟨k + 1, m + 2, HM2, by omega, hm2, by go_num, ⟨by rw [HT.out, HY.out]; exact HO1.out⟩, ⟨HB1.out⟩⟩
      case measure => simp only [intOf]; omega
    · have e51 : k = 51 := by have := HM.out; omega
      have e102 : m = 102 := by omega
      subst e51 e102
      go_wp2
      go_ret
      obtain ⟨A, c, rfl, hr⟩ := own_reads_of (enc := Value.string) (d := ByteArray.empty) (xs := N) (by have := HO.out; rw [List.take_of_length_le (by rw [N_len]; omega)] at this; exact this)
      refine ⟨A, c, by rw [N_len]; rfl, by rw [N_len]; exact hr, below_step (below_alloc (Below.refl _ _) _) (HB.out.mono (by simp))⟩
end Go.Proofs.Ytjmaiihgjghgjaa.RefsRef
