/- Rows of trees as rows of bare cells: for rows of a call's own whose elements lead to what is shared. -/
import Derived.Test.YteglfgmgpbablaaDoorCmpLabel
namespace Go.Proofs.YteglfgmgpbablaaDoor.Cmp
open Go.RowKit Go.Proofs.YteglfgmgpbablaaDoor.PCompareTells Go.Proofs.YteglfgmgpbablaaDoorW.PrintWords Go.Proofs.YteglfgmgpbablaaDoorW.PrintLast
structure Vl where
  v : Value
  one : v.oneCell' = true
abbrev kV : Kd Vl := Kd.scalar Vl.v Vl.one
structure Raw where
  x0 : Vl
  x1 : Vl
  x2 : Vl
  x3 : Vl
  x4 : Vl
  x5 : Vl
def kRaw : Kd Raw := Kd.iso (Kd.pair kV (Kd.pair kV (Kd.pair kV (Kd.pair kV (Kd.pair kV kV))))) (fun x => (x.x0, x.x1, x.x2, x.x3, x.x4, x.x5))
def cl (r : Raw) : List Value := [r.x0.v, r.x1.v, r.x2.v, r.x3.v, r.x4.v, r.x5.v]
theorem kRaw_M (w : World) (base : Nat) (ok : Nat → Prop) (r : Raw) : kRaw.M w base ok r (cl r) := ⟨[r.x0.v], [r.x1.v, r.x2.v, r.x3.v, r.x4.v, r.x5.v], rfl, rfl, [r.x1.v], [r.x2.v, r.x3.v, r.x4.v, r.x5.v], rfl, rfl, [r.x2.v], [r.x3.v, r.x4.v, r.x5.v], rfl, rfl, [r.x3.v], [r.x4.v, r.x5.v], rfl, rfl, [r.x4.v], [r.x5.v], rfl, rfl, rfl⟩
theorem kRaw_Kmk (w : World) (r : Raw) : kRaw.K w r (cl r) := ⟨[r.x0.v], [r.x1.v, r.x2.v, r.x3.v, r.x4.v, r.x5.v], rfl, rfl, [r.x1.v], [r.x2.v, r.x3.v, r.x4.v, r.x5.v], rfl, rfl, [r.x2.v], [r.x3.v, r.x4.v, r.x5.v], rfl, rfl, [r.x3.v], [r.x4.v, r.x5.v], rfl, rfl, [r.x4.v], [r.x5.v], rfl, rfl, rfl⟩
theorem kRaw_K {w : World} {r : Raw} {cs : List Value} (h : kRaw.K w r cs) : cs = cl r := by
  obtain ⟨c0, c1, rfl, h0, c2, c3, rfl, h1, c4, c5, rfl, h2, c6, c7, rfl, h3, c8, c9, rfl, h4, h5⟩ := h
  have e0 : c0 = [r.x0.v] := h0
  have e1 : c2 = [r.x1.v] := h1
  have e2 : c4 = [r.x2.v] := h2
  have e3 : c6 = [r.x3.v] := h3
  have e4 : c8 = [r.x4.v] := h4
  have e5 : c9 = [r.x5.v] := h5
  subst e0; subst e1; subst e2; subst e3; subst e4; subst e5
  rfl
theorem kRaw_KM {w w' : World} {base : Nat} {ok : Nat → Prop} {r : Raw} {cs : List Value} (h : kRaw.K w r cs) : kRaw.M w' base ok r cs := by
  rw [kRaw_K h]
  exact kRaw_M _ _ _ r
/-- The cells of a tree. -/
inductive KL (w : World) : List S26 → List Raw → Prop
  | nil : KL w [] []
  | cons {x : S26} {r : Raw} {xs : List S26} {rs : List Raw} (h : k26.K w x (cl r)) (t : KL w xs rs) : KL w (x :: xs) (r :: rs)
theorem KL.len {w : World} {xs : List S26} {rs : List Raw} (h : KL w xs rs) : xs.length = rs.length := by
  induction h with
  | nil => rfl
  | cons _ _ ih => simp [ih]
theorem KL.step {w w' : World} {xs : List S26} {rs : List Raw} (h : KL w xs rs) (hb : Below w.heap.size w w') : KL w' xs rs := by
  induction h with
  | nil => exact .nil
  | cons h _ ih => exact .cons (k26.K_below hb h) ih
theorem KL.app {w : World} {xs ys : List S26} {rs ss : List Raw} (h : KL w xs rs) (h2 : KL w ys ss) : KL w (xs ++ ys) (rs ++ ss) := by
  induction h with
  | nil => exact h2
  | cons h _ ih => exact .cons h ih
theorem KL.set {w : World} {xs : List S26} {rs : List Raw} (h : KL w xs rs) (i : Nat) (x : S26) (r : Raw) (hx : k26.K w x (cl r)) : KL w (xs.set i x) (rs.set i r) := by
  induction h generalizing i with
  | nil => exact .nil
  | cons h t ih =>
    cases i with
    | zero => exact .cons hx t
    | succ i => exact .cons h (ih i)
theorem KL.at {w : World} {xs : List S26} {rs : List Raw} (h : KL w xs rs) : ∀ (i : Nat) (x : S26), xs[i]? = some x → ∃ r, rs[i]? = some r ∧ k26.K w x (cl r) := by
  induction h with
  | nil => intro i x hx; simp at hx
  | cons h t ih =>
    intro i x hx
    cases i with
    | zero => cases hx; exact ⟨_, rfl, h⟩
    | succ i => exact ih i x hx
theorem raw_of {w : World} {x : S26} {cs : List Value} (h : k26.K w x cs) : ∃ r : Raw, cl r = cs := by
  obtain ⟨A3, c3, A5, c5, rfl, _⟩ := k26_open h
  exact ⟨⟨⟨.int .i64 x.f0, rfl⟩, ⟨.int .i64 x.f1, rfl⟩, ⟨.string x.f2, rfl⟩, ⟨.slice A3 x.f3.length c3, rfl⟩, ⟨.string x.f4, rfl⟩, ⟨.slice A5 x.f5.length c5, rfl⟩⟩, rfl⟩
theorem C_raw {w : World} {A : Option Addr} {xs : List S26} (h : k26.C w A xs.length xs) : ∃ rs, kRaw.C w A rs.length rs ∧ KL w xs rs := by
  have hp : ∀ j : Nat, ∃ r : Raw, ∀ x, xs[j]? = some x → k26.K w x (cl r) ∧ ∀ ad, A = some ad → ∀ i u, (cl r)[i]? = some u → w.cell? (ad.add (j * 6 + i)) = some u := by
    intro j
    cases hx : xs[j]? with
    | none => exact ⟨⟨⟨.int .i64 0, rfl⟩, ⟨.int .i64 0, rfl⟩, ⟨.int .i64 0, rfl⟩, ⟨.int .i64 0, rfl⟩, ⟨.int .i64 0, rfl⟩, ⟨.int .i64 0, rfl⟩⟩, fun x h => by cases h⟩
    | some x =>
      have hj : j < xs.length := (List.getElem?_eq_some_iff.1 hx).1
      obtain ⟨ad, hA, hc⟩ := h.2.2 (by omega)
      obtain ⟨c, hl, hK, hcell⟩ := hc j x hx
      obtain ⟨r, hr⟩ := raw_of hK
      refine ⟨r, fun y hy => ?_⟩
      cases hy
      rw [hr]
      refine ⟨hK, fun ad' he i u hu => ?_⟩
      rw [hA] at he
      cases he
      exact hcell i u hu
  obtain ⟨f, hf⟩ : ∃ f : Nat → Raw, ∀ j x, xs[j]? = some x → k26.K w x (cl (f j)) ∧ ∀ ad, A = some ad → ∀ i u, (cl (f j))[i]? = some u → w.cell? (ad.add (j * 6 + i)) = some u := ⟨fun j => Classical.choose (hp j), fun j => Classical.choose_spec (hp j)⟩
  have hKL : ∀ (ys : List S26) (k : Nat), (∀ j y, ys[j]? = some y → k26.K w y (cl (f (k + j)))) → KL w ys ((List.range' k ys.length).map f) := by
    intro ys
    induction ys with
    | nil => intro k _; exact .nil
    | cons y ys ih =>
      intro k hk
      rw [List.length_cons, List.range'_succ, List.map_cons]
      exact .cons (by have := hk 0 y rfl; simpa using this) (ih (k + 1) (fun j z hz => by have := hk (j + 1) z hz; rwa [show k + (j + 1) = k + 1 + j from by omega] at this))
  refine ⟨(List.range' 0 xs.length).map f, ⟨by simp, by simpa using h.2.1, fun hpos => ?_⟩, hKL xs 0 (fun j y hy => by rw [Nat.zero_add]; exact (hf j y hy).1)⟩
  have hpos' : 0 < xs.length := by simpa using hpos
  obtain ⟨ad, hA, _⟩ := h.2.2 hpos'
  refine ⟨ad, hA, fun j r hr => ?_⟩
  have hj : j < xs.length := by
    have := (List.getElem?_eq_some_iff.1 hr).1
    simpa using this
  have hrj : r = f j := by
    rw [List.getElem?_map, List.getElem?_range' hj] at hr
    simp at hr
    exact hr.symm
  subst hrj
  exact ⟨cl (f j), rfl, kRaw_Kmk w (f j), fun i u hu => (hf j _ (List.getElem?_eq_getElem hj)).2 ad hA i u hu⟩
theorem raw_C {w : World} {A : Option Addr} {xs : List S26} {rs : List Raw} (h : kRaw.C w A rs.length rs) (hk : KL w xs rs) : k26.C w A xs.length xs := by
  refine ⟨rfl, by rw [hk.len]; exact h.2.1, fun hpos => ?_⟩
  obtain ⟨ad, hA, hc⟩ := h.2.2 (by rw [← hk.len]; exact hpos)
  refine ⟨ad, hA, fun j x hx => ?_⟩
  obtain ⟨r, hr, hK⟩ := hk.at j x hx
  obtain ⟨c, hl, hKr, hcell⟩ := hc j r hr
  obtain rfl := kRaw_K hKr
  exact ⟨cl r, hl, hK, hcell⟩
/-- A tree as a value. -/
def TV (w : World) (v : Value) (t : S26) : Prop := ∃ (A3 : Option Addr) (c3 : Nat) (A5 : Option Addr) (c5 : Nat), v = .agg #[.int .i64 t.f0, .int .i64 t.f1, .string t.f2, .slice A3 t.f3.length c3, .string t.f4, .slice A5 t.f5.length c5] ∧ t.f3.length ≤ c3 ∧ k47.C w A3 t.f3.length t.f3 ∧ t.f5.length ≤ c5 ∧ k26.C w A5 t.f5.length t.f5
theorem TV.below {w w' : World} {v : Value} {t : S26} (h : TV w v t) (hb : Below w.heap.size w w') : TV w' v t := by
  obtain ⟨A3, c3, A5, c5, rfl, l3, g3, l5, g5⟩ := h
  exact ⟨A3, c3, A5, c5, rfl, l3, Kd.C_below g3 hb, l5, Kd.C_below g5 hb⟩
theorem res_tree {w : World} {X : Nat} {a b c d e f : Value} (hb : w.heap[X]? = some (.cells #[a, b, c, d, e, f] 26 (0, 0))) (t : Tmp) {fn : Func} (tmps : Array Value) (h : fn.results = #[.cell t 26]) (ht : tmps.getD t undef = .pointer (some ⟨X, 0, none⟩)) : (results fn tmps).run Tryd.prog w = .ok (.agg #[a, b, c, d, e, f]) w := by
  have z0 : w.cell? ⟨X, 0, none⟩ = some a := cell_of_row w X 0 _ _ _ hb
  have z1 : w.cell? ⟨X, 1, none⟩ = some b := cell_of_row w X 1 _ _ _ hb
  have z2 : w.cell? ⟨X, 2, none⟩ = some c := cell_of_row w X 2 _ _ _ hb
  have z3 : w.cell? ⟨X, 3, none⟩ = some d := cell_of_row w X 3 _ _ _ hb
  have z4 : w.cell? ⟨X, 4, none⟩ = some e := cell_of_row w X 4 _ _ _ hb
  have z5 : w.cell? ⟨X, 5, none⟩ = some f := cell_of_row w X 5 _ _ _ hb
  rw [Array.getD_eq_getD_getElem?] at ht
  simp [results, h, ht, go_sem, z0, z1, z2, z3, z4, z5]
theorem res_tree2 {w : World} {X : Nat} {a b c d e f : Value} (hb : w.heap[X]? = some (.cells #[a, b, c, d, e, f] 26 (0, 0))) (t u : Tmp) {fn : Func} (tmps : Array Value) (h : fn.results = #[.cell t 26, .tmp u]) (ht : tmps.getD t undef = .pointer (some ⟨X, 0, none⟩)) {r : Value} (hu : tmps.getD u undef = r) : (results fn tmps).run Tryd.prog w = .ok (.tuple #[.agg #[a, b, c, d, e, f], r]) w := by
  have z0 : w.cell? ⟨X, 0, none⟩ = some a := cell_of_row w X 0 _ _ _ hb
  have z1 : w.cell? ⟨X, 1, none⟩ = some b := cell_of_row w X 1 _ _ _ hb
  have z2 : w.cell? ⟨X, 2, none⟩ = some c := cell_of_row w X 2 _ _ _ hb
  have z3 : w.cell? ⟨X, 3, none⟩ = some d := cell_of_row w X 3 _ _ _ hb
  have z4 : w.cell? ⟨X, 4, none⟩ = some e := cell_of_row w X 4 _ _ _ hb
  have z5 : w.cell? ⟨X, 5, none⟩ = some f := cell_of_row w X 5 _ _ _ hb
  rw [Array.getD_eq_getD_getElem?] at ht hu
  simp [results, h, ht, hu, go_sem, z0, z1, z2, z3, z4, z5]
theorem lit0R (W : World) (base : Nat) (hb : base ≤ W.heap.size) : kRaw.R 26 (W.alloc (.cells #[] 26)) base (fun _ => True) (.slice (some ⟨W.heap.size, 0, none⟩) 0 0) [] :=
  ⟨fun _ _ => trivial, [], by have := World.ownsRow_lit (base := base) (e := 26) (size := 6) W #[] 0 hb (by simp) rfl; exact this, Reps.none _ _⟩
theorem raw_lit {w : World} {g : Nat} {ty : TypeId} {a b c d e f : Value} (ha : a.oneCell' = true) (hb : b.oneCell' = true) (hc : c.oneCell' = true) (hd : d.oneCell' = true) (he : e.oneCell' = true) (hf : f.oneCell' = true) (h : w.heap[g]? = some (.cells #[a, b, c, d, e, f] ty (0, 0))) : kRaw.C w (some ⟨g, 0, none⟩) 1 [⟨⟨a, ha⟩, ⟨b, hb⟩, ⟨c, hc⟩, ⟨d, hd⟩, ⟨e, he⟩, ⟨f, hf⟩⟩] := by
  refine ⟨rfl, by decide, fun _ => ⟨_, rfl, fun j p hj => ?_⟩⟩
  match j, hj with
  | 0, hj =>
    cases hj
    refine ⟨_, rfl, kRaw_Kmk w _, fun i u hu => ?_⟩
    have ea : ∀ m, (⟨g, 0, none⟩ : Addr).add m = ⟨g, m, none⟩ := by intro m; unfold Addr.add; split <;> simp_all
    rw [ea, cell_of_row w g _ _ _ _ h]
    match i, hu with
    | 0, hu => rw [← hu]; rfl
    | 1, hu => rw [← hu]; rfl
    | 2, hu => rw [← hu]; rfl
    | 3, hu => rw [← hu]; rfl
    | 4, hu => rw [← hu]; rfl
    | 5, hu => rw [← hu]; rfl
abbrev kI : Kd Int := Kd.int .i64
/-- A way as a value. -/
def WV (w : World) (v : Value) (l : List Nat) : Prop := ∃ (A : Option Addr) (c : Nat), v = .slice A l.length c ∧ l.length ≤ c ∧ kI.C w A (l.map Int.ofNat).length (l.map Int.ofNat)
theorem WV.nil (w : World) : WV w (.slice none 0 0) [] := ⟨none, 0, rfl, Nat.le_refl _, Kd.C_nil _ _⟩
end Go.Proofs.YteglfgmgpbablaaDoor.Cmp
