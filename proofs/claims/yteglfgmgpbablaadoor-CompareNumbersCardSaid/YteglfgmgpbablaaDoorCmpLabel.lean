/- The walks of tree.Label and compare.Label; a tree at a place in memory. -/
import Derived.Test.YteglfgmgpbablaaDoorCmpStk
import Derived.Test.YteglfgmgpbablaaDoorCmpPure
import Derived.Deep.DeepCutAuto
import Derived.Deep.CutBlock
namespace Go.Proofs.YteglfgmgpbablaaDoor.Cmp
open Go.RowKit Go.Proofs.YteglfgmgpbablaaDoor.PCompareTells Go.Proofs.YteglfgmgpbablaaDoorW.PrintWords Go.Proofs.YteglfgmgpbablaaDoorW.PrintLast
theorem cellW {W W' : World} {p : Addr} {v : Value} (h : W.cell? p = some v) (hb : Below W.heap.size W W') : W'.cell? p = some v := (hb.cell (World.block_lt_of_cell? _ _ h)).trans h
/-- A tree at a place. -/
def TAt (w : World) (ad : Addr) (t : S26) : Prop := ∃ (A3 : Option Addr) (c3 : Nat) (A5 : Option Addr) (c5 : Nat), w.cell? ad = some (.int .i64 t.f0) ∧ w.cell? ⟨ad.block, ad.off + 1, none⟩ = some (.int .i64 t.f1) ∧ w.cell? ⟨ad.block, ad.off + 2, none⟩ = some (.string t.f2) ∧ w.cell? ⟨ad.block, ad.off + 3, none⟩ = some (.slice A3 t.f3.length c3) ∧ w.cell? ⟨ad.block, ad.off + 4, none⟩ = some (.string t.f4) ∧ w.cell? ⟨ad.block, ad.off + 5, none⟩ = some (.slice A5 t.f5.length c5) ∧ t.f3.length ≤ c3 ∧ k47.C w A3 t.f3.length t.f3 ∧ t.f5.length ≤ c5 ∧ k26.C w A5 t.f5.length t.f5
theorem TAt.below {w w' : World} {ad : Addr} {t : S26} (h : TAt w ad t) (hb : Below w.heap.size w w') : TAt w' ad t := by
  obtain ⟨A3, c3, A5, c5, h0, h1, h2, h3, h4, h5, l3, g3, l5, g5⟩ := h
  exact ⟨A3, c3, A5, c5, cellW h0 hb, cellW h1 hb, cellW h2 hb, cellW h3 hb, cellW h4 hb, cellW h5 hb, l3, Kd.C_below g3 hb, l5, Kd.C_below g5 hb⟩
theorem TAt_kid {w : World} {A : Option Addr} {xs : List S26} (h : k26.C w A xs.length xs) (i : Nat) (hi : i < xs.length) : ∃ ad, A = some ad ∧ TAt w (ad.add (i * 6)) (rd_T26 xs (i : Int)) := by
  obtain ⟨ad, A3, c3, A5, c5, e, h0, h1, h2, h3, h4, h5, l3, g3, l5, g5⟩ := at_T26 h (i : Int) (by omega) (by omega)
  rw [Int.toNat_natCast] at h0 h1 h2 h3 h4 h5
  exact ⟨ad, e, A3, c3, A5, c5, h0, h1, h2, h3, h4, h5, l3, g3, l5, g5⟩
theorem TAt_blk {w : World} {b : Nat} {ty : TypeId} {fr : Nat × Nat} {t : S26} {A3 : Option Addr} {c3 : Nat} {A5 : Option Addr} {c5 : Nat} (h : w.heap[b]? = some (.cells #[.int .i64 t.f0, .int .i64 t.f1, .string t.f2, .slice A3 t.f3.length c3, .string t.f4, .slice A5 t.f5.length c5] ty fr)) (l3 : t.f3.length ≤ c3) (g3 : k47.C w A3 t.f3.length t.f3) (l5 : t.f5.length ≤ c5) (g5 : k26.C w A5 t.f5.length t.f5) : TAt w ⟨b, 0, none⟩ t :=
  ⟨A3, c3, A5, c5, cell_of_row w b 0 _ _ _ h, cell_of_row w b 1 _ _ _ h, cell_of_row w b 2 _ _ _ h, cell_of_row w b 3 _ _ _ h, cell_of_row w b 4 _ _ _ h, cell_of_row w b 5 _ _ _ h, l3, g3, l5, g5⟩
set_option maxHeartbeats 8000000 in
set_option maxRecDepth 100000 in
theorem label (p q : Addr) (a b : S26) (w : World) (ha : TAt w p a) (hb : TAt w q b) (hn : a.f3.length ≤ 1000000000) :
    Calls Tryd.prog 28 #[.pointer (some p), .pointer (some q)] w fun e w' => e = .returned (.bool (labL a b)) ∧ Drawn0 w w' := by
  obtain ⟨A3, c3, A5, c5, h0, h1, h2, h3, h4, h5, l3, g3, l5, g5⟩ := ha
  obtain ⟨B3, d3, B5, d5, i0, i1, i2, i3, i4, i5, m3, j3, m5, j5⟩ := hb
  have HS := hide (fun (n : Nat) => attrs_Same.calls (a.f3.length + 1) A3 c3 a.f3 B3 d3 b.f3 (sameA a.f3 b.f3) (w.drewN n) (Kd.C_drewN g3 n) l3 (Kd.C_drewN j3 n) m3 (attrSame _ _ hn _ (Nat.lt_succ_self _)))
  unfold labL
  obtain ⟨a0, a1, a2, a3, a4, a5⟩ := a
  obtain ⟨b0, b1, b2, b3, b4, b5⟩ := b
  dsimp only at *
  clear g3 j3 g5 j5 hn l3 m3 l5 m5 h5 i5
  obtain ⟨s, hs⟩ : ∃ s, sameA a3 b3 = s := ⟨_, rfl⟩
  rw [hs] at HS ⊢
  clear hs
  cases e0 : (a0 == b0) with
  | false =>
    go_enter Tryd.func28, Tryd.ntmps28
    go_wp2_with fail
    first | go_quiet (fail) | fail
    go_wp2_with fail
    go_ret
    exact ⟨rfl, by first | exact ⟨⟨_, rfl⟩⟩ | exact ⟨⟨0, rfl⟩⟩⟩
  | true =>
    cases e1 : (a1 == b1) with
    | false =>
      go_enter Tryd.func28, Tryd.ntmps28
      go_wp2_with fail
      first | go_quiet (fail) | fail
      go_wp2_with fail
      go_ret
      exact ⟨rfl, by first | exact ⟨⟨_, rfl⟩⟩ | exact ⟨⟨0, rfl⟩⟩⟩
    | true =>
      cases e2 : (a2.toList == b2.toList) with
      | false =>
        go_enter Tryd.func28, Tryd.ntmps28
        go_wp2_with fail
        first | go_quiet (fail) | fail
        go_wp2_with fail
        go_ret
        exact ⟨rfl, by first | exact ⟨⟨_, rfl⟩⟩ | exact ⟨⟨0, rfl⟩⟩⟩
      | true =>
        cases s with
        | false =>
          go_enter Tryd.func28, Tryd.ntmps28
          go_wp2_with fail
          first | go_quiet ((go_at_call 38; (with_reducible refine (HS.out _).mono ?_); rintro e w' ⟨rfl, ⟨⟨nd, rfl⟩⟩⟩; exact ⟨rfl, _, World.drewN_drewN _ _ _⟩)) | fail
          go_wp2_with fail
          go_ret
          exact ⟨rfl, by first | exact ⟨⟨_, rfl⟩⟩ | exact ⟨⟨0, rfl⟩⟩⟩
        | true =>
          cases e4 : (a4.toList == b4.toList) with
          | false =>
            go_enter Tryd.func28, Tryd.ntmps28
            go_wp2_with fail
            first | go_quiet ((go_at_call 38; (with_reducible refine (HS.out _).mono ?_); rintro e w' ⟨rfl, ⟨⟨nd, rfl⟩⟩⟩; exact ⟨rfl, _, World.drewN_drewN _ _ _⟩)) | fail
            go_wp2_with fail
            go_ret
            exact ⟨rfl, by first | exact ⟨⟨_, rfl⟩⟩ | exact ⟨⟨0, rfl⟩⟩⟩
          | true =>
            go_enter Tryd.func28, Tryd.ntmps28
            go_wp2_with fail
            first | go_quiet ((go_at_call 38; (with_reducible refine (HS.out _).mono ?_); rintro e w' ⟨rfl, ⟨⟨nd, rfl⟩⟩⟩; exact ⟨rfl, _, World.drewN_drewN _ _ _⟩)) | fail
            go_wp2_with fail
            go_ret
            exact ⟨rfl, by first | exact ⟨⟨_, rfl⟩⟩ | exact ⟨⟨0, rfl⟩⟩⟩
end Go.Proofs.YteglfgmgpbablaaDoor.Cmp
