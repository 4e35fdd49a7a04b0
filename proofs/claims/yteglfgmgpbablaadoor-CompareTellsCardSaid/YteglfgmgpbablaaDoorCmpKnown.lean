/- Ground for arbourlaw24.known: two nodes in a block. -/
import Derived.Test.YteglfgmgpbablaaDoorCmpGrowP
namespace Go.Proofs.YteglfgmgpbablaaDoor.Cmp
open Go.RowKit Go.Proofs.YteglfgmgpbablaaDoor.PCompareTells Go.Proofs.YteglfgmgpbablaaDoorW.PrintWords Go.Proofs.YteglfgmgpbablaaDoorW.PrintLast
theorem two_nodes {w : World} {g : Nat} {ty : TypeId} {fr : Nat × Nat} {s1 s2 : ByteArray} {a b c d e f : Int} {p q : Bool} (h : w.heap[g]? = some (.cells #[.int .i64 a, .int .i64 b, .int .i64 c, .bool p, .string s1, .slice none 0 0, .int .i64 d, .int .i64 e, .int .i64 f, .bool q, .string s2, .slice none 0 0] ty fr)) : k45.C w (some ⟨g, 0, none⟩) 2 [⟨a, b, c, p, s1, []⟩, ⟨d, e, f, q, s2, []⟩] := by
  have hk : ∀ (n0 n1 n2 : Int) (b : Bool) (s : ByteArray), k45.K w ⟨n0, n1, n2, b, s, []⟩ [.int .i64 n0, .int .i64 n1, .int .i64 n2, .bool b, .string s, .slice none 0 0] := fun n0 n1 n2 b s => k45_mk w ⟨n0, n1, n2, b, s, []⟩ (Nat.le_refl 0) (Kd.C_nil _ _)
  refine ⟨rfl, by decide, fun _ => ⟨_, rfl, fun j x hj => ?_⟩⟩
  match j, hj with
  | 0, hj =>
    cases hj
    refine ⟨_, rfl, hk _ _ _ _ _, fun i u hu => ?_⟩
    rw [add0, cell_of_row w g _ _ _ _ h]
    match i, hu with
    | 0, hu => rw [← hu]; rfl
    | 1, hu => rw [← hu]; rfl
    | 2, hu => rw [← hu]; rfl
    | 3, hu => rw [← hu]; rfl
    | 4, hu => rw [← hu]; rfl
    | 5, hu => rw [← hu]; rfl
  | 1, hj =>
    cases hj
    refine ⟨_, rfl, hk _ _ _ _ _, fun i u hu => ?_⟩
    rw [add0, cell_of_row w g _ _ _ _ h]
    match i, hu with
    | 0, hu => rw [← hu]; rfl
    | 1, hu => rw [← hu]; rfl
    | 2, hu => rw [← hu]; rfl
    | 3, hu => rw [← hu]; rfl
    | 4, hu => rw [← hu]; rfl
    | 5, hu => rw [← hu]; rfl
end Go.Proofs.YteglfgmgpbablaaDoor.Cmp
