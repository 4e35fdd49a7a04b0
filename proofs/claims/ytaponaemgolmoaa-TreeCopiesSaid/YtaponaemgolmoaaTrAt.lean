/- A tree at a place in memory. -/
import Derived.Test.YtaponaemgolmoaaTrBase
namespace Go.Proofs.Ytaponaemgolmoaa.Tr
open Go.RowKit Go.Proofs.Ytaponaemgolmoaa.PTreeTells Go.Proofs.YtaponaemgolmoaaW.PrintWords Go.Proofs.YtaponaemgolmoaaW.PrintLast
theorem cellW {W W' : World} {p : Addr} {v : Value} (h : W.cell? p = some v) (hb : Below W.heap.size W W') : W'.cell? p = some v := (hb.cell (World.block_lt_of_cell? _ _ h)).trans h
/-- A tree at a place. -/
def TAt (w : World) (ad : Addr) (t : S26) : Prop := ∃ (A3 : Option Addr) (c3 : Nat) (A5 : Option Addr) (c5 : Nat), w.cell? ad = some (.int .i64 t.f0) ∧ w.cell? ⟨ad.block, ad.off + 1, none⟩ = some (.int .i64 t.f1) ∧ w.cell? ⟨ad.block, ad.off + 2, none⟩ = some (.string t.f2) ∧ w.cell? ⟨ad.block, ad.off + 3, none⟩ = some (.slice A3 t.f3.length c3) ∧ w.cell? ⟨ad.block, ad.off + 4, none⟩ = some (.string t.f4) ∧ w.cell? ⟨ad.block, ad.off + 5, none⟩ = some (.slice A5 t.f5.length c5) ∧ t.f3.length ≤ c3 ∧ k33.C w A3 t.f3.length t.f3 ∧ t.f5.length ≤ c5 ∧ k26.C w A5 t.f5.length t.f5
theorem TAt.below {w w' : World} {ad : Addr} {t : S26} (h : TAt w ad t) (hb : Below w.heap.size w w') : TAt w' ad t := by
  obtain ⟨A3, c3, A5, c5, h0, h1, h2, h3, h4, h5, l3, g3, l5, g5⟩ := h
  exact ⟨A3, c3, A5, c5, cellW h0 hb, cellW h1 hb, cellW h2 hb, cellW h3 hb, cellW h4 hb, cellW h5 hb, l3, Kd.C_below g3 hb, l5, Kd.C_below g5 hb⟩
theorem TAt_kid {w : World} {A : Option Addr} {xs : List S26} (h : k26.C w A xs.length xs) (i : Nat) (hi : i < xs.length) : ∃ ad, A = some ad ∧ TAt w (ad.add (i * 6)) (rd_T26 xs (i : Int)) := by
  obtain ⟨ad, A3, c3, A5, c5, e, h0, h1, h2, h3, h4, h5, l3, g3, l5, g5⟩ := at_T26 h (i : Int) (by omega) (by omega)
  rw [Int.toNat_natCast] at h0 h1 h2 h3 h4 h5
  exact ⟨ad, e, A3, c3, A5, c5, h0, h1, h2, h3, h4, h5, l3, g3, l5, g5⟩
theorem TAt_blk {w : World} {b : Nat} {ty : TypeId} {fr : Nat × Nat} {t : S26} {A3 : Option Addr} {c3 : Nat} {A5 : Option Addr} {c5 : Nat} (h : w.heap[b]? = some (.cells #[.int .i64 t.f0, .int .i64 t.f1, .string t.f2, .slice A3 t.f3.length c3, .string t.f4, .slice A5 t.f5.length c5] ty fr)) (l3 : t.f3.length ≤ c3) (g3 : k33.C w A3 t.f3.length t.f3) (l5 : t.f5.length ≤ c5) (g5 : k26.C w A5 t.f5.length t.f5) : TAt w ⟨b, 0, none⟩ t :=
  ⟨A3, c3, A5, c5, cell_of_row w b 0 _ _ _ h, cell_of_row w b 1 _ _ _ h, cell_of_row w b 2 _ _ _ h, cell_of_row w b 3 _ _ _ h, cell_of_row w b 4 _ _ _ h, cell_of_row w b 5 _ _ _ h, l3, g3, l5, g5⟩
end Go.Proofs.Ytaponaemgolmoaa.Tr
