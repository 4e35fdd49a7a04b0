/- From a reading of an argument as data to what its cells say, kind by kind. No condition. -/
import Derived.Test.YtjebpaapkmbahaaArBase
import Derived.ProofKit
import Derived.OpenShut
import Derived.Deep.Slices
namespace Go.Proofs.Ytjebpaapkmbahaa.Opens
open Go.RowKit Go.ChangeShapes Go.WideShapes Go.Proofs.YtjebpaapkmbahaaW.PrintWords Go.Proofs.YtjebpaapkmbahaaW.PrintLast

/-- Whatever reads as data at type t is of kind d. -/
def Opens (P : Program) {α : Type} (d : Kd α) (t : TypeId) : Prop :=
  ∀ {H : Type} {enc : TypeId × Value → H} {w : World} {base : Nat} {spare : Nat → Bool} {held : Bool} {fuel : Nat} {cs : List Value} {x : DataW H × List MemPlace}, DataW.trod enc P w base spare held fuel t cs = some x → ∃ y : α, d.K w y cs

theorem opens_string {P : Program} {t : TypeId} (ht : P.underlying t = some .string) : Opens P Kd.string t := by
  intro H enc w base spare held fuel cs x h
  obtain ⟨s, rfl, _⟩ := DataW.trod_string ht h
  exact ⟨s, rfl⟩
theorem opens_int {P : Program} {t : TypeId} {k : IntKind} (ht : P.underlying t = some (.int k)) : Opens P (Kd.int k) t := by
  intro H enc w base spare held fuel cs x h
  obtain ⟨a, rfl, _, _⟩ := DataW.trod_int ht h
  exact ⟨a, rfl⟩

theorem list_of {α : Type} {q : Nat → α → Prop} : ∀ n, (∀ i, i < n → ∃ y, q i y) → ∃ ys : List α, ys.length = n ∧ ∀ i y, ys[i]? = some y → q i y
  | 0, _ => ⟨[], rfl, fun i y h => by simp at h⟩
  | n + 1, each => by
    obtain ⟨ys, hys, hy⟩ := list_of n (fun i hi => each i (by omega))
    obtain ⟨y, h2⟩ := each n (by omega)
    refine ⟨ys ++ [y], by simp [hys], fun i z hz => ?_⟩
    rcases Nat.lt_or_ge i ys.length with hi | hi
    · rw [List.getElem?_append_left hi] at hz
      exact hy i z hz
    · rw [List.getElem?_append_right hi] at hz
      have hi0 : i - ys.length = 0 := by
        rcases Nat.eq_zero_or_pos (i - ys.length) with h | h
        · exact h
        · rw [List.getElem?_eq_none (by simp; omega)] at hz
          cases hz
      rw [hi0] at hz
      have hzy : y = z := by simpa using hz
      subst hzy
      have : i = n := by omega
      subst this
      exact h2

theorem opens_slice {P : Program} {α : Type} {d : Kd α} {t e : TypeId} (ht : P.underlying t = some (.slice e)) (hc : P.cellsOf e = d.sz) (hd : Opens P d e) : Opens P (Kd.slice e d) t := by
  intro H enc w base spare held fuel cs x h
  rcases Deep.open_slice ht h with ⟨rfl, _⟩ | ⟨a, len, cap, m, n, D, Pl, rfl, _, hl, hm, hmm, _, hel⟩
  · exact ⟨[], none, 0, rfl, Nat.le_refl _, rfl, by simp, fun h => absurd h (by simp)⟩
  · have hlen : len ≤ m := by rw [hmm]; split <;> omega
    have each : ∀ i, i < len → ∃ y, ∃ cs', w.cells? base (a.add (i * P.cellsOf e)) (P.cellsOf e) = some cs' ∧ d.K w y cs' := by
      intro i hi
      obtain ⟨cs', h1, h2⟩ := hel i (by omega)
      obtain ⟨y, hy⟩ := hd h2
      exact ⟨y, cs', h1, hy⟩
    have hall := list_of len each
    obtain ⟨ys, hys, hy⟩ := hall
    refine ⟨ys, some a, cap, by rw [hys], by omega, rfl, by unfold maxLen at hm; omega, fun _ => ⟨a, rfl, fun j p hj => ?_⟩⟩
    obtain ⟨cs', h1, h2⟩ := hy j p hj
    have hsz := d.K_len h2
    refine ⟨cs', hsz, h2, fun i u hu => ?_⟩
    obtain ⟨_, hl2, hcell⟩ := World.cells?_some h1
    rw [← hc, ← Deep.add_add]
    have hi : i < cs'.length := (List.getElem?_eq_some_iff.1 hu).1
    rw [hcell i (by omega)]
    exact hu

theorem opens_pair2 {P : Program} {α β γ : Type} {a : Kd α} {b : Kd β} {g : γ → α × β} {mk : α × β → γ} (hg : ∀ p, g (mk p) = p) {t : TypeId} {f0 f1 : Field} (ht : P.underlying t = some (.struct #[f0, f1])) (h0 : f0.offset = 0) (h1 : f1.offset = a.sz) (hs0 : P.cellsOf f0.type = a.sz) (hs1 : P.cellsOf f1.type = b.sz) (hs : P.cellsOf t = a.sz + b.sz)
    (ha : Opens P a f0.type) (hb : Opens P b f1.type) : Opens P (Kd.iso (Kd.pair a b) g) t := by
  intro H enc w base spare held fuel cs x h
  obtain ⟨y0, y1, n, rfl, hl, e0, e1⟩ := trod_struct2 ht h
  obtain ⟨u, hu⟩ := ha e0
  obtain ⟨v, hv⟩ := hb e1
  refine ⟨mk (u, v), ?_⟩
  show (Kd.pair a b).K w (g (mk (u, v))) cs
  rw [hg]
  refine ⟨_, _, ?_, hu, hv⟩
  rw [h0, h1, hs0, hs1, List.drop_zero]
  have : (cs.drop a.sz).take b.sz = cs.drop a.sz := List.take_of_length_le (by rw [List.length_drop]; omega)
  rw [this, List.take_append_drop]

/-- A slice argument that reads as data: what its cells say, as the walk wants it. -/
theorem slice_arg {P : Program} {α : Type} {d : Kd α} {t e : TypeId} (ho : Opens P (Kd.slice e d) t) {H : Type} {enc : TypeId × Value → H} {w : World} {base : Nat} {spare : Nat → Bool} {held : Bool} {a : Option Addr} {n c : Nat} {x : DataW H} {ps : List MemPlace}
    (h : DataW.Trod enc P w base spare held t (.slice a n c) x ps) : ∃ xs : List α, xs.length = n ∧ n ≤ c ∧ Kd.C d w a xs.length xs := by
  obtain ⟨fuel, hf⟩ := h
  obtain ⟨xs, A, c', hcs, hl, hC⟩ := ho hf
  simp [Value.cells] at hcs
  obtain ⟨rfl, rfl, rfl⟩ := hcs
  exact ⟨xs, rfl, hl, hC⟩
end Go.Proofs.Ytjebpaapkmbahaa.Opens
namespace Go.Proofs.Ytjebpaapkmbahaa.Ar
open Go.RowKit Go.ChangeShapes Go.WideShapes Go.Proofs.YtjebpaapkmbahaaW.PrintWords Go.Proofs.YtjebpaapkmbahaaW.PrintLast
theorem openTexts : Opens.Opens Try.prog (Kd.slice 9 Kd.string) 22 := Opens.opens_slice Try.underlying22 (by kernel_rfl) (Opens.opens_string Try.underlying9)
end Go.Proofs.Ytjebpaapkmbahaa.Ar
