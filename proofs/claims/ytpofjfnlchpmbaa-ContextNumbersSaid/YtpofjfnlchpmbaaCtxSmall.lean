/- Small walks for the law ContextNumbers: Adjusted of nothing; rows of attributes and elements in blocks. -/
import Derived.Test.YtpofjfnlchpmbaaCtxAdj
namespace Go.Proofs.Ytpofjfnlchpmbaa.Ctx
open Go.RowKit Go.Proofs.Ytpofjfnlchpmbaa.PContextTells Go.Proofs.YtpofjfnlchpmbaaW.PrintWords Go.Proofs.YtpofjfnlchpmbaaW.PrintLast
theorem adjustNil (w : World) : Calls Try.prog 16 #[.pointer none, .pointer none] w fun e w' => e = .returned (.tuple #[.int .i64 0, .string ⟨#[]⟩]) ∧ Below w.heap.size w w' := by
  go_enter Try.func16, Try.ntmps16
  go_wp2_with fail
  go_ret2
  exact ⟨rfl, Below.refl _ _⟩
theorem rows_blk {w : World} {g : Nat} {cs : Array Value} {t : TypeId} {fr : Nat × Nat} (h : w.heap[g]? = some (.cells cs t fr)) (xs : List S44) (hm : xs.length ≤ 9223372036854775807)
    (hcs : ∀ (j : Nat) (p : S44), xs[j]? = some p → cs[j * 2]? = some (.string p.f0) ∧ cs[j * 2 + 1]? = some (.string p.f1)) : k44.C w (some ⟨g, 0, none⟩) xs.length xs := by
  refine ⟨rfl, hm, fun _ => ⟨_, rfl, fun j p hj => ⟨[.string p.f0, .string p.f1], rfl, k44_mk w p, fun i u hu => ?_⟩⟩⟩
  have ea : ∀ m, (⟨g, 0, none⟩ : Addr).add m = ⟨g, m, none⟩ := by intro m; unfold Addr.add; split <;> simp_all
  rw [ea, cell_of_row w g _ cs t fr h]
  obtain ⟨h0, h1⟩ := hcs j p hj
  match i, hu with
  | 0, hu => rw [← hu]; exact h0
  | 1, hu => rw [← hu]; exact h1
end Go.Proofs.Ytpofjfnlchpmbaa.Ctx
