/- An argument of the type []Node of small bulk, opened: each of its texts and lists is short. No condition. -/
import Derived.Test.YtaponaemgolmoaaTrOpen
import Derived.Test.YtaponaemgolmoaaTrShowsP
namespace Go.Proofs.Ytaponaemgolmoaa.Tr
open Go.RowKit Go.ChangeShapes Go.WideShapes Go.Proofs.Ytaponaemgolmoaa.PTreeTells Go.Proofs.YtaponaemgolmoaaW.PrintWords Go.Proofs.YtaponaemgolmoaaW.PrintLast
set_option linter.unusedVariables false
/-- Whatever reads as data of small bulk at type t is of kind d, and φ holds of it. -/
def OpensB (P : Program) {α : Type} (d : Kd α) (φ : α → Prop) (t : TypeId) : Prop :=
  ∀ {H : Type} {enc : TypeId × Value → H} {w : World} {base : Nat} {spare : Nat → Bool} {held : Bool} {fuel : Nat} {cs : List Value} {x : DataW H × List MemPlace}, DataW.trod enc P w base spare held fuel t cs = some x → Rows.uptoBulk x.1 ≤ 1048576 → ∃ y : α, d.K w y cs ∧ φ y
theorem opensB_string {P : Program} {t : TypeId} (ht : P.underlying t = some .string) : OpensB P Kd.string (fun s => s.size ≤ 1048576) t := by
  intro H enc w base spare held fuel cs x h hb
  obtain ⟨s, rfl, rfl, _⟩ := DataW.trod_string ht h
  refine ⟨s, rfl, ?_⟩
  simp only [Rows.uptoBulk, Array.length_toList] at hb
  show s.data.size ≤ _
  omega
theorem opensB_int {P : Program} {t : TypeId} {k : IntKind} (ht : P.underlying t = some (.int k)) : OpensB P (Kd.int k) (fun _ => True) t := by
  intro H enc w base spare held fuel cs x h _
  obtain ⟨a, rfl, _, _⟩ := DataW.trod_int ht h
  exact ⟨a, rfl, trivial⟩
theorem one_le {H : Type} (d : DataW H) : 1 ≤ Rows.uptoBulk d := by
  cases d with
  | lit l => cases l <;> simp [Rows.uptoBulk]
  | nil => simp [Rows.uptoBulk]
  | ptr d => simp [Rows.uptoBulk]
  | slice elems spare => simp [Rows.uptoBulk]
  | agg parts => simp [Rows.uptoBulk]
  | iface t d => simp [Rows.uptoBulk]
  | map entries => simp [Rows.uptoBulk]
  | held h => simp [Rows.uptoBulk]
theorem length_le {H : Type} (l : List (DataW H)) : l.length ≤ Rows.uptoBulkAll l := by
  induction l with
  | nil => simp [Rows.uptoBulkAll]
  | cons x r ih => have := one_le x; simp only [Rows.uptoBulkAll, List.length_cons]; omega
theorem mem_le {H : Type} (l : List (DataW H)) (d : DataW H) (h : d ∈ l) : Rows.uptoBulk d ≤ Rows.uptoBulkAll l := by
  induction l with
  | nil => cases h
  | cons x r ih =>
    rw [Rows.uptoBulkAll]
    rcases List.mem_cons.1 h with rfl | h
    · omega
    · have := ih h
      omega
theorem opensB_slice {P : Program} {α : Type} {d : Kd α} {φ : α → Prop} {t e : TypeId} (ht : P.underlying t = some (.slice e)) (hc : P.cellsOf e = d.sz) (hd : OpensB P d φ e) : OpensB P (Kd.slice e d) (fun l => l.length ≤ 1048576 ∧ ∀ y ∈ l, φ y) t := by
  intro H enc w base spare held fuel cs x h hb
  rcases Deep.open_slice ht h with ⟨rfl, _⟩ | ⟨a, len, cap, m, n, D, Pl, rfl, _, hl, hm, hmm, rfl, hel⟩
  · exact ⟨[], ⟨none, 0, rfl, Nat.le_refl _, rfl, by simp, fun h => absurd h (by simp)⟩, Nat.zero_le _, by simp⟩
  · have hlen : len ≤ m := by rw [hmm]; split <;> omega
    simp only [Rows.uptoBulk] at hb
    have hlb : len ≤ 1048576 := by
      have := length_le ((List.range len).map D)
      simp only [List.length_map, List.length_range] at this
      omega
    have each : ∀ i, i < len → ∃ y, (∃ cs', w.cells? base (a.add (i * P.cellsOf e)) (P.cellsOf e) = some cs' ∧ d.K w y cs') ∧ φ y := by
      intro i hi
      obtain ⟨cs', h1, h2⟩ := hel i (by omega)
      have hbi := mem_le ((List.range len).map D) (D i) (List.mem_map.2 ⟨i, List.mem_range.2 hi, rfl⟩)
      obtain ⟨y, hy, hφ⟩ := hd h2 (by show Rows.uptoBulk (D i) ≤ _; omega)
      exact ⟨y, ⟨cs', h1, hy⟩, hφ⟩
    obtain ⟨ys, hys, hy⟩ := Opens.list_of len each
    refine ⟨ys, ⟨some a, cap, by rw [hys], by omega, rfl, by unfold maxLen at hm; omega, fun _ => ⟨a, rfl, fun j p hj => ?_⟩⟩, by omega, fun y hm' => ?_⟩
    · obtain ⟨⟨cs', h1, h2⟩, _⟩ := hy j p hj
      have hsz := d.K_len h2
      refine ⟨cs', hsz, h2, fun i u hu => ?_⟩
      obtain ⟨_, hl2, hcell⟩ := World.cells?_some h1
      rw [← hc, ← Deep.add_add]
      have hi : i < cs'.length := (List.getElem?_eq_some_iff.1 hu).1
      rw [hcell i (by omega)]
      exact hu
    · obtain ⟨j, hj, rfl⟩ := List.mem_iff_getElem.1 hm'
      exact (hy j _ (List.getElem?_eq_getElem hj)).2
set_option maxRecDepth 100000 in
theorem openAttrB : OpensB Try.prog k33 (fun a => a.f0.size ≤ 1048576 ∧ a.f1.size ≤ 1048576) 33 := by
  intro H enc w base spare held fuel cs x h hb
  obtain ⟨y0, y1, n, rfl, hl, e0, e1⟩ := trod_struct2 Try.underlying33 h
  simp only [Rows.uptoBulk, Rows.uptoBulkAll] at hb
  obtain ⟨u, hu, hs⟩ := opensB_string Try.underlying9 e0 (by omega)
  obtain ⟨v, hv, ht⟩ := opensB_string Try.underlying9 e1 (by omega)
  have hl2 : cs.length = 2 := hl.trans (by kernel_rfl)
  match cs, hl2 with
  | [a, b], _ => exact ⟨(⟨u, v⟩ : S33), ⟨[a], [b], rfl, hu, hv⟩, hs, ht⟩
theorem openAttrsB : OpensB Try.prog (Kd.slice 33 k33) (fun l => l.length ≤ 1048576 ∧ ∀ y ∈ l, y.f0.size ≤ 1048576 ∧ y.f1.size ≤ 1048576) 23 := opensB_slice Try.underlying23 (by kernel_rfl) openAttrB
theorem trod_struct6' {H : Type} {enc : TypeId × Value → H} {P : Program} {w : World} {base : Nat} {spare : Nat → Bool} {held : Bool} {t : TypeId} {f0 f1 f2 f3 f4 f5 : Field} {fuel : Nat} {cs : List Value} {x : DataW H × List MemPlace} (ht : P.underlying t = some (.struct #[f0, f1, f2, f3, f4, f5])) (h : DataW.trod enc P w base spare held fuel t cs = some x) :
    ∃ y0 y1 y2 y3 y4 y5 n, x.1 = .agg [y0.1, y1.1, y2.1, y3.1, y4.1, y5.1] ∧ cs.length = P.cellsOf t ∧ DataW.trod enc P w base spare held n f0.type ((cs.drop f0.offset).take (P.cellsOf f0.type)) = some y0 ∧
      DataW.trod enc P w base spare held n f1.type ((cs.drop f1.offset).take (P.cellsOf f1.type)) = some y1 ∧ DataW.trod enc P w base spare held n f2.type ((cs.drop f2.offset).take (P.cellsOf f2.type)) = some y2 ∧
      DataW.trod enc P w base spare held n f3.type ((cs.drop f3.offset).take (P.cellsOf f3.type)) = some y3 ∧ DataW.trod enc P w base spare held n f4.type ((cs.drop f4.offset).take (P.cellsOf f4.type)) = some y4 ∧
      DataW.trod enc P w base spare held n f5.type ((cs.drop f5.offset).take (P.cellsOf f5.type)) = some y5 := by
  obtain ⟨xs, n, _, rfl, hl, hlen, hf⟩ := DataW.trod_struct ht h
  match xs, hlen with
  | [y0, y1, y2, y3, y4, y5], _ => exact ⟨y0, y1, y2, y3, y4, y5, n, rfl, hl, by simpa using hf 0 f0 rfl, by simpa using hf 1 f1 rfl, by simpa using hf 2 f2 rfl, by simpa using hf 3 f3 rfl, by simpa using hf 4 f4 rfl, by simpa using hf 5 f5 rfl⟩
set_option maxRecDepth 100000 in
theorem openNodeB : OpensB Try.prog k30 NodeB 30 := by
  intro H enc w base spare held fuel cs x h hb
  obtain ⟨y0, y1, y2, y3, y4, y5, n, hx, hl, e0, e1, e2, e3, e4, e5⟩ := trod_struct6' Try.underlying30 h
  rw [hx] at hb
  simp only [Rows.uptoBulk, Rows.uptoBulkAll] at hb
  obtain ⟨u0, h0, _⟩ := opensB_int Try.underlying3 e0 (by omega)
  obtain ⟨u1, h1, _⟩ := opensB_int Try.underlying3 e1 (by omega)
  obtain ⟨u2, h2, _⟩ := opensB_int Try.underlying3 e2 (by omega)
  obtain ⟨u3, h3, s3⟩ := opensB_string Try.underlying9 e3 (by omega)
  obtain ⟨u4, h4, s4⟩ := opensB_string Try.underlying9 e4 (by omega)
  obtain ⟨u5, h5, s5⟩ := openAttrsB e5 (by omega)
  have hl6 : cs.length = 6 := hl.trans (by kernel_rfl)
  match cs, hl6 with
  | [a, b, c, d, e, f], _ =>
    exact ⟨(⟨u0, u1, u2, u3, u4, u5⟩ : S30), ⟨[a], [b, c, d, e, f], rfl, h0, [b], [c, d, e, f], rfl, h1, [c], [d, e, f], rfl, h2, [d], [e, f], rfl, h3, [e], [f], rfl, h4, h5⟩, s3, s4, s5.1, s5.2⟩
theorem openNodesB : OpensB Try.prog (Kd.slice 30 k30) (fun l => l.length ≤ 1048576 ∧ ∀ y ∈ l, NodeB y) 22 := opensB_slice Try.underlying22 (by kernel_rfl) openNodeB
/-- An argument []Node of small bulk. -/
theorem nodes_arg {H : Type} {enc : TypeId × Value → H} {w : World} {base : Nat} {spare : Nat → Bool} {held : Bool} {a : Option Addr} {n c : Nat} {x : DataW H} {ps : List MemPlace}
    (h : DataW.Trod enc Try.prog w base spare held 22 (.slice a n c) x ps) (hb : Rows.uptoBulk x ≤ 1048576) : ∃ xs : List S30, xs.length = n ∧ n ≤ c ∧ Kd.C k30 w a xs.length xs ∧ ∀ y ∈ xs, NodeB y := by
  obtain ⟨fuel, hf⟩ := h
  obtain ⟨xs, ⟨A, c', hcs, hl, hC⟩, _, hφ⟩ := openNodesB hf hb
  simp [Value.cells] at hcs
  obtain ⟨rfl, rfl, rfl⟩ := hcs
  exact ⟨xs, rfl, hl, hC, hφ⟩
end Go.Proofs.Ytaponaemgolmoaa.Tr
